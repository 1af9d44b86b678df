/- The document's readers, method by method. Written by wip/gen/meant.py. -/
import Derived.Test.YtjijmikpoenbcaaC16
import Derived.Test.YtjijmikpoenbcaaStays
import Derived.Test.YtjijmikpoenbcaaQ5
import Derived.Test.YtjijmikpoenbcaaThing
namespace Go.Proofs.Ytjijmikpoenbcaa.Codec
open Go.RowKit Go.Proofs.YtjijmikpoenbcaaW.PrintWords Go.Proofs.YtjijmikpoenbcaaW.PrintLast Go.Proofs.YtjijmikpoenbcaaW.PrintMore
set_option linter.unusedVariables false
set_option linter.unusedSimpArgs false
/-- what a document's reader has left: the cells of A -/
structure Rest (w : World) (gm gb : Nat) (A : Option Addr) (c : Nat) (l : List Int) (e : Int) : Prop where
 rdg : Kd.C (Kd.int .u8) w A l.length l
 le : l.length ≤ c
 top : c ≤ 9223372036854775807
 len : l.length ≤ 140737488355328
 src : (A = none ∧ l = [] ∧ c = 0) ∨ ∃ off cs t, A = some ⟨gb, off, none⟩ ∧ gb ≠ gm ∧ w.heap[gb]? = some (.cells cs t (0, 0))
 flt : e ≠ 0 → l = []
theorem Rest.keep1 {w w' : World} {gm gb : Nat} {A : Option Addr} {c : Nat} {l : List Int} {e : Int} (h : Rest w gm gb A c l e) (hk : gb < w.heap.size → gb ≠ gm → w'.heap[gb]? = w.heap[gb]?) : Rest w' gm gb A c l e := by
 refine ⟨?_, h.le, h.top, h.len, ?_, h.flt⟩
 · rcases h.src with ⟨rfl, rfl, rfl⟩ | ⟨off, cs, t, rfl, hn, hc⟩
   · exact Kd.C_nil _ _
   · exact C_keep h.rdg hc (hk (blk_lt hc) hn)
 · rcases h.src with q | ⟨off, cs, t, rfl, hn, hc⟩
   · exact Or.inl q
   · exact Or.inr ⟨off, cs, t, rfl, hn, (hk (blk_lt hc) hn).trans hc⟩
theorem Rest.keep {w w' : World} {gm gb : Nat} {A : Option Addr} {c : Nat} {l : List Int} {e : Int} (h : Rest w gm gb A c l e) (hk : ∀ k, k < w.heap.size → k ≠ gm → w'.heap[k]? = w.heap[k]?) : Rest w' gm gb A c l e := h.keep1 (hk gb)
theorem rest_nil (w : World) (gm gb : Nat) (e : Int) : Rest w gm gb none 0 [] e := ⟨Kd.C_nil _ _, Nat.le_refl _, by omega, by simp, Or.inl ⟨rfl, rfl, rfl⟩, fun _ => rfl⟩
theorem Rest.drop {w : World} {gm gb off : Nat} {c : Nat} {l : List Int} (h : Rest w gm gb (some ⟨gb, off, none⟩) c l 0) (n : Nat) (hn : n ≤ l.length) : Rest w gm gb (some ⟨gb, off + n, none⟩) (c - n) (l.drop n) 0 := by
 refine ⟨?_, by rw [List.length_drop]; have := h.le; omega, by have := h.top; omega, by rw [List.length_drop]; have := h.len; omega, Or.inr ?_, fun q => absurd rfl q⟩
 · have := C_sub h.rdg n (l.length - n) (by omega)
   rw [List.take_of_length_le (by simp)] at this
   rw [List.length_drop]
   exact this
 · rcases h.src with ⟨q, _⟩ | ⟨off', cs, t, q, hg, hc⟩
   · cases q
   · cases q
     exact ⟨off + n, cs, t, rfl, hg, hc⟩
theorem Rest.none0 {w : World} {gm gb off : Nat} {c : Nat} {l : List Int} {e : Int} (h : Rest w gm gb (some ⟨gb, off, none⟩) c l e) : Rest w gm gb (some ⟨gb, off, none⟩) 0 [] 0 := by
 refine ⟨⟨rfl, Nat.zero_le _, fun hp => by simp at hp⟩, Nat.le_refl _, by omega, by simp, Or.inr ?_, fun _ => rfl⟩
 rcases h.src with ⟨q, _⟩ | q
 · cases q
 · exact q
theorem Rest.take {w : World} {gm gb off : Nat} {c : Nat} {l : List Int} {e : Int} (h : Rest w gm gb (some ⟨gb, off, none⟩) c l e) (n : Nat) (hn : n ≤ l.length) : Kd.C (Kd.int .u8) w (some ⟨gb, off, none⟩) n (l.take n) := by
 have := C_sub h.rdg 0 n (by omega)
 simpa using this
/-- a document's reader at cell 0 of the block gm -/
structure M0 (w : World) (gm gb : Nat) (A : Option Addr) (c : Nat) (l : List Int) (e : Int) (y0 y1 : Value) : Prop where
 blk : w.heap[gm]? = some (.cells #[.slice A l.length c, .int .i64 e, y0, y1] 69 (0, 0))
 rest : Rest w gm gb A c l e
/-- what a step leaves -/
def Mt0 (gm gb : Nat) (l : List Int) (e : Int) (y0 y1 : Value) (w w' : World) : Prop := ∃ A c, M0 w' gm gb A c l e y0 y1 ∧ Chg (· = gm) w w'
theorem Mt0.refl {w : World} {gm gb : Nat} {A : Option Addr} {c : Nat} {l : List Int} {e : Int} {y0 y1 : Value} (h : M0 w gm gb A c l e y0 y1) : Mt0 gm gb l e y0 y1 w w := ⟨A, c, h, Chg.refl _ _⟩
theorem Mt0.trans {w w1 w2 : World} {gm gb : Nat} {l : List Int} {e : Int} {y0 y1 : Value} (hc : Chg (· = gm) w w1) (h : Mt0 gm gb l e y0 y1 w1 w2) : Mt0 gm gb l e y0 y1 w w2 := by
 obtain ⟨A, c, h1, h2⟩ := h
 exact ⟨A, c, h1, hc.trans h2⟩
theorem M0.keep {F : Nat → Prop} {w w' : World} {gm gb : Nat} {A : Option Addr} {c : Nat} {l : List Int} {e : Int} {y0 y1 : Value} (h : M0 w gm gb A c l e y0 y1) (hc : Chg F w w') (h1 : ¬ F gm) (h2 : ¬ F gb) : M0 w' gm gb A c l e y0 y1 :=
 ⟨(hc.block gm (blk_lt h.blk) h1).trans h.blk, h.rest.keep1 (fun q _ => hc.block gb q h2)⟩
theorem Mt0.cells {w wa w1 w2 : World} {gm gb : Nat} {l : List Int} {e : Int} {y0 y1 : Value} (hgm : gm < w.heap.size) (hgb : gb < w.heap.size) (h0 : Chg (· = gm) w wa) (h : Mt0 gm gb l e y0 y1 wa w1) (h2 : Chg (fun k => w.heap.size ≤ k) w1 w2) : Mt0 gm gb l e y0 y1 w w2 := by
 obtain ⟨A, c, k1, k2⟩ := h
 exact ⟨A, c, k1.keep h2 (fun q => by omega) (fun q => by omega), (h0.trans k2).then h2 (fun i hi => Or.inr hi)⟩
set_option maxHeartbeats 8000000 in
set_option maxRecDepth 100000 in
theorem mfail0 (gm gb : Nat) (A : Option Addr) (c : Nat) (l : List Int) (e0 : Int) (y0 y1 : Value) (w : World) (hm : M0 w gm gb A c l e0 y0 y1) (x : Int) (hx : x ≠ 0) :
 Calls Try.prog 65 #[.pointer (some ⟨gm, 0, none⟩), .int .i64 x] w fun e w' => e = .returned (.tuple #[]) ∧ Mt0 gm gb [] (failE x e0) y0 y1 w w' := by
 have hc0 : w.cell? ⟨gm, 0, none⟩ = some (.slice A l.length c) := (blk_cell hm.blk 0).trans rfl
 have hc1 : w.cell? ⟨gm, 1, none⟩ = some (.int .i64 e0) := (blk_cell hm.blk 1).trans rfl
 have hf0 := blk_frozen hm.blk 0
 have hf1 := blk_frozen hm.blk 1
 have HM := Aside0.mk hm
 clear hm
 have HX := Aside0.mk hx
 clear hx
 have HE : Aside0 (failE x e0 = if e0 = 0 then x else e0) := ⟨rfl⟩
 by_cases h0 : e0 = 0
 · subst h0
   rw [HE.out, if_pos rfl]
   go_enter Try.func65, Try.ntmps65
   go_wp2
   go_end0
   refine ⟨rfl, none, 0, ⟨blk_put (blk_put HM.out.blk 1 _ rfl) 0 _ rfl, rest_nil _ _ _ _⟩, ?_⟩
   exact Chg.setCell (F := (· = gm)) (Chg.setCell (F := (· = gm)) (Chg.refl _ _) (p := ⟨gm, 1, none⟩) (Or.inl rfl) _) (p := ⟨gm, 0, none⟩) (Or.inl rfl) _
 · rw [HE.out, if_neg h0]
   have hb : (e0 == 0) = false := by simpa using h0
   have HL := Aside0.mk (HM.out.rest.flt h0)
   clear h0
   go_enter Try.func65, Try.ntmps65
   go_wp2
   go_end0
   have hl := HL.out
   subst hl
   exact ⟨rfl, Mt0.refl HM.out⟩
set_option maxHeartbeats 8000000 in
set_option maxRecDepth 100000 in
theorem mtake_fault0 (gm gb : Nat) (A : Option Addr) (c : Nat) (l : List Int) (e0 : Int) (y0 y1 : Value) (w : World) (hm : M0 w gm gb A c l e0 y0 y1) (n : Int) (he : e0 ≠ 0) :
 Calls Try.prog 64 #[.pointer (some ⟨gm, 0, none⟩), .int .i64 n] w fun e w' => e = .returned (.tuple #[.slice none 0 0, .bool false]) ∧ w' = w := by
 have hc0 : w.cell? ⟨gm, 0, none⟩ = some (.slice A l.length c) := (blk_cell hm.blk 0).trans rfl
 have hc1 : w.cell? ⟨gm, 1, none⟩ = some (.int .i64 e0) := (blk_cell hm.blk 1).trans rfl
 have hf0 := blk_frozen hm.blk 0
 have hf1 := blk_frozen hm.blk 1
 have HM := Aside0.mk hm
 clear hm
 have hb : (e0 == 0) = false := by simpa using he
 have hb2 : (e0 != 0) = true := by simpa using he
 clear he
 go_enter Try.func64, Try.ntmps64
 go_wp2
 go_ret2
 exact ⟨rfl, rfl⟩
set_option maxHeartbeats 8000000 in
set_option maxRecDepth 100000 in
theorem mtake_short0 (gm gb : Nat) (A : Option Addr) (c : Nat) (l : List Int) (y0 y1 : Value) (w : World) (hm : M0 w gm gb A c l 0 y0 y1) (n : Int) (hn : (l.length : Int) < n) :
 Calls Try.prog 64 #[.pointer (some ⟨gm, 0, none⟩), .int .i64 n] w fun e w' => e = .returned (.tuple #[.slice none 0 0, .bool false]) ∧ Mt0 gm gb [] 20 y0 y1 w w' := by
 have hc0 : w.cell? ⟨gm, 0, none⟩ = some (.slice A l.length c) := (blk_cell hm.blk 0).trans rfl
 have hc1 : w.cell? ⟨gm, 1, none⟩ = some (.int .i64 0) := (blk_cell hm.blk 1).trans rfl
 have hf0 := blk_frozen hm.blk 0
 have hf1 := blk_frozen hm.blk 1
 have HM := Aside0.mk hm
 clear hm
 go_enter Try.func64, Try.ntmps64
 go_wp2_with fail
 refine (mfail0 gm gb A c l 0 y0 y1 w HM.out 20 (by decide)).mono ?_
 rintro e w1 ⟨rfl, h⟩
 have H := Aside0.mk h
 clear h
 go_wp2
 go_ret2
 exact ⟨rfl, H.out⟩
set_option maxHeartbeats 8000000 in
set_option maxRecDepth 100000 in
theorem mtake0 (gm gb off : Nat) (c : Nat) (l : List Int) (y0 y1 : Value) (w : World) (hm : M0 w gm gb (some ⟨gb, off, none⟩) c l 0 y0 y1) (n : Nat) (hn : n ≤ l.length) :
 Calls Try.prog 64 #[.pointer (some ⟨gm, 0, none⟩), .int .i64 n] w fun e w' => e = .returned (.tuple #[.slice (some ⟨gb, off, none⟩) n c, .bool true]) ∧ Kd.C (Kd.int .u8) w' (some ⟨gb, off, none⟩) n (l.take n) ∧ Mt0 gm gb (l.drop n) 0 y0 y1 w w' := by
 have hc0 : w.cell? ⟨gm, 0, none⟩ = some (.slice (some ⟨gb, off, none⟩) l.length c) := (blk_cell hm.blk 0).trans rfl
 have hc1 : w.cell? ⟨gm, 1, none⟩ = some (.int .i64 0) := (blk_cell hm.blk 1).trans rfl
 have hf0 := blk_frozen hm.blk 0
 have hf1 := blk_frozen hm.blk 1
 have HM := Aside0.mk hm
 clear hm
 have hlt : ¬ l.length < n := by omega
 have hle := HM.out.rest.le
 have htop := HM.out.rest.top
 have hnc : n ≤ c := by omega
 have HN := Aside0.mk hn
 have HLE := Aside0.mk hle
 by_cases hc : c = n
 · subst hc
   go_enter Try.func64, Try.ntmps64
   go_wp2
   go_ret2
   have hg : ∀ k, k < w.heap.size → k ≠ gm → (w.setCell ⟨gm, 0, none⟩ (.slice (some ⟨gb, off, none⟩) 0 0)).heap[k]? = w.heap[k]? := fun k _ hk => Below.heap_setCell _ _ _ k hk
   have hr := (HM.out.rest.keep hg)
   have hd0 : l.drop c = [] := List.drop_eq_nil_of_le (by have := HLE.out; omega)
   rw [hd0]
   refine ⟨rfl, hr.take c HN.out, some ⟨gb, off, none⟩, 0, ⟨?_, hr.none0⟩, Chg.setCell (F := (· = gm)) (Chg.refl _ _) (p := ⟨gm, 0, none⟩) (Or.inl rfl) _⟩
   exact blk_put HM.out.blk 0 _ rfl
 · go_enter Try.func64, Try.ntmps64
   go_wp2
   go_ret2
   have hg : ∀ k, k < w.heap.size → k ≠ gm → (w.setCell ⟨gm, 0, none⟩ (.slice (some ⟨gb, off + n, none⟩) (l.length - n) (c - n))).heap[k]? = w.heap[k]? := fun k _ hk => Below.heap_setCell _ _ _ k hk
   have hr := (HM.out.rest.keep hg)
   refine ⟨rfl, hr.take n HN.out, some ⟨gb, off + n, none⟩, c - n, ⟨?_, hr.drop n HN.out⟩, Chg.setCell (F := (· = gm)) (Chg.refl _ _) (p := ⟨gm, 0, none⟩) (Or.inl rfl) _⟩
   rw [List.length_drop]
   exact blk_put HM.out.blk 0 _ rfl
set_option maxHeartbeats 8000000 in
set_option maxRecDepth 100000 in
theorem mtake_nil0 (gm gb : Nat) (y0 y1 : Value) (w : World) (hm : M0 w gm gb none 0 [] 0 y0 y1) :
 Calls Try.prog 64 #[.pointer (some ⟨gm, 0, none⟩), .int .i64 0] w fun e w' => e = .returned (.tuple #[.slice none 0 0, .bool true]) ∧ Mt0 gm gb [] 0 y0 y1 w w' := by
 have hc0 : w.cell? ⟨gm, 0, none⟩ = some (.slice none 0 0) := (blk_cell hm.blk 0).trans rfl
 have hc1 : w.cell? ⟨gm, 1, none⟩ = some (.int .i64 0) := (blk_cell hm.blk 1).trans rfl
 have hf0 := blk_frozen hm.blk 0
 have hf1 := blk_frozen hm.blk 1
 have HM := Aside0.mk hm
 clear hm
 go_enter Try.func64, Try.ntmps64
 go_wp2
 go_ret2
 exact ⟨rfl, none, 0, ⟨blk_put HM.out.blk 0 _ rfl, rest_nil _ _ _ _⟩, Chg.setCell (F := (· = gm)) (Chg.refl _ _) (p := ⟨gm, 0, none⟩) (Or.inl rfl) _⟩
set_option maxHeartbeats 8000000 in
set_option maxRecDepth 100000 in
theorem mend0 (gm gb : Nat) (A : Option Addr) (c : Nat) (l : List Int) (e0 : Int) (y0 y1 : Value) (w : World) (hm : M0 w gm gb A c l e0 y0 y1) :
 Calls Try.prog 36 #[.pointer (some ⟨gm, 0, none⟩)] w fun e w' => e = .returned (.int .i64 (endR l e0)) ∧ w' = w := by
 have hc0 : w.cell? ⟨gm, 0, none⟩ = some (.slice A l.length c) := (blk_cell hm.blk 0).trans rfl
 have hc1 : w.cell? ⟨gm, 1, none⟩ = some (.int .i64 e0) := (blk_cell hm.blk 1).trans rfl
 have hf0 := blk_frozen hm.blk 0
 have hf1 := blk_frozen hm.blk 1
 have HM := Aside0.mk hm
 clear hm
 have HE : Aside0 (endR l e0 = if e0 = 0 ∧ 0 < l.length then 20 else e0) := ⟨rfl⟩
 by_cases he : e0 = 0
 · subst he
   have hb : ((0 : Int) != 0) = false := rfl
   by_cases hl : 0 < l.length
   · rw [HE.out, if_pos ⟨rfl, hl⟩]
     have hl2 : (0 : Int) < l.length := by omega
     go_enter Try.func36, Try.ntmps36
     go_wp2
     go_ret
     exact ⟨rfl, rfl⟩
   · rw [HE.out, if_neg (fun q => hl q.2)]
     have hl2 : ¬ (0 : Int) < l.length := by omega
     go_enter Try.func36, Try.ntmps36
     go_wp2
     go_ret
     exact ⟨rfl, rfl⟩
 · rw [HE.out, if_neg (fun q => he q.1)]
   have hb2 : (e0 != 0) = true := by simpa using he
   clear he
   go_enter Try.func36, Try.ntmps36
   go_wp2
   go_ret
   exact ⟨rfl, rfl⟩
set_option maxHeartbeats 8000000 in
set_option maxRecDepth 100000 in
theorem mbyte0 (gm gb : Nat) (A : Option Addr) (c : Nat) (l : List Int) (e0 : Int) (y0 y1 : Value) (w : World) (hm : M0 w gm gb A c l e0 y0 y1) :
 Calls Try.prog 56 #[.pointer (some ⟨gm, 0, none⟩)] w fun e w' => e = .returned (.int .u8 (byteR l e0).1) ∧ Mt0 gm gb (byteR l e0).2.1 (byteR l e0).2.2 y0 y1 w w' := by
 by_cases he : e0 = 0
 · subst he
   by_cases hn : 1 ≤ l.length
   · rcases hm.rest.src with ⟨_, q, _⟩ | ⟨off, cs, t, rfl, _⟩
     · subst q; simp at hn
     · have HT := Aside0.mk (mtake0 gm gb off c l y0 y1 w hm 1 hn)
       have HLE := Aside0.mk hm.rest.le
       clear hm
       cases l with
       | nil => simp at hn
       | cons b t =>
        clear hn
        go_enter Try.func56, Try.ntmps56
        go_wp2_with fail
        refine HT.out.mono ?_
        rintro e w1 ⟨rfl, hC, hM⟩
        have hcell : w1.cell? ⟨gb, off, none⟩ = some (.int .u8 b) := by
         have := C_read hC 0 (by omega)
         rwa [add_zero] at this
        have HM := Aside0.mk hM
        clear hC hM
        go_wp2
        go_ret
        exact ⟨rfl, HM.out⟩
   · have HT := Aside0.mk (mtake_short0 gm gb A c l y0 y1 w hm 1 (by omega))
     clear hm
     have hl : l = [] := List.eq_nil_of_length_eq_zero (by omega)
     subst hl
     clear hn
     go_enter Try.func56, Try.ntmps56
     go_wp2_with fail
     refine HT.out.mono ?_
     rintro e w1 ⟨rfl, hM⟩
     have HM := Aside0.mk hM
     clear hM
     go_wp2
     go_ret
     exact ⟨rfl, HM.out⟩
 · have hl := hm.rest.flt he
   subst hl
   have HT := Aside0.mk (mtake_fault0 gm gb A c [] e0 y0 y1 w hm 1 he)
   have HM0 := Aside0.mk hm
   clear hm
   rw [show byteR [] e0 = (0, [], e0) by simp [byteR, he]]
   clear he
   go_enter Try.func56, Try.ntmps56
   go_wp2_with fail
   refine HT.out.mono ?_
   rintro e w1 ⟨rfl, rfl⟩
   go_wp2
   go_ret
   exact ⟨rfl, Mt0.refl HM0.out⟩
/-- a document's reader at cell 2 of the block gm -/
structure M1 (w : World) (gm gb : Nat) (A : Option Addr) (c : Nat) (l : List Int) (e : Int) (y0 y1 : Value) : Prop where
 blk : w.heap[gm]? = some (.cells #[y0, y1, .slice A l.length c, .int .i64 e] 69 (0, 0))
 rest : Rest w gm gb A c l e
/-- what a step leaves -/
def Mt1 (gm gb : Nat) (l : List Int) (e : Int) (y0 y1 : Value) (w w' : World) : Prop := ∃ A c, M1 w' gm gb A c l e y0 y1 ∧ Chg (· = gm) w w'
theorem Mt1.refl {w : World} {gm gb : Nat} {A : Option Addr} {c : Nat} {l : List Int} {e : Int} {y0 y1 : Value} (h : M1 w gm gb A c l e y0 y1) : Mt1 gm gb l e y0 y1 w w := ⟨A, c, h, Chg.refl _ _⟩
theorem Mt1.trans {w w1 w2 : World} {gm gb : Nat} {l : List Int} {e : Int} {y0 y1 : Value} (hc : Chg (· = gm) w w1) (h : Mt1 gm gb l e y0 y1 w1 w2) : Mt1 gm gb l e y0 y1 w w2 := by
 obtain ⟨A, c, h1, h2⟩ := h
 exact ⟨A, c, h1, hc.trans h2⟩
theorem M1.keep {F : Nat → Prop} {w w' : World} {gm gb : Nat} {A : Option Addr} {c : Nat} {l : List Int} {e : Int} {y0 y1 : Value} (h : M1 w gm gb A c l e y0 y1) (hc : Chg F w w') (h1 : ¬ F gm) (h2 : ¬ F gb) : M1 w' gm gb A c l e y0 y1 :=
 ⟨(hc.block gm (blk_lt h.blk) h1).trans h.blk, h.rest.keep1 (fun q _ => hc.block gb q h2)⟩
theorem Mt1.cells {w wa w1 w2 : World} {gm gb : Nat} {l : List Int} {e : Int} {y0 y1 : Value} (hgm : gm < w.heap.size) (hgb : gb < w.heap.size) (h0 : Chg (· = gm) w wa) (h : Mt1 gm gb l e y0 y1 wa w1) (h2 : Chg (fun k => w.heap.size ≤ k) w1 w2) : Mt1 gm gb l e y0 y1 w w2 := by
 obtain ⟨A, c, k1, k2⟩ := h
 exact ⟨A, c, k1.keep h2 (fun q => by omega) (fun q => by omega), (h0.trans k2).then h2 (fun i hi => Or.inr hi)⟩
set_option maxHeartbeats 8000000 in
set_option maxRecDepth 100000 in
theorem mfail1 (gm gb : Nat) (A : Option Addr) (c : Nat) (l : List Int) (e0 : Int) (y0 y1 : Value) (w : World) (hm : M1 w gm gb A c l e0 y0 y1) (x : Int) (hx : x ≠ 0) :
 Calls Try.prog 65 #[.pointer (some ⟨gm, 2, none⟩), .int .i64 x] w fun e w' => e = .returned (.tuple #[]) ∧ Mt1 gm gb [] (failE x e0) y0 y1 w w' := by
 have hc0 : w.cell? ⟨gm, 2, none⟩ = some (.slice A l.length c) := (blk_cell hm.blk 2).trans rfl
 have hc1 : w.cell? ⟨gm, 3, none⟩ = some (.int .i64 e0) := (blk_cell hm.blk 3).trans rfl
 have hf0 := blk_frozen hm.blk 2
 have hf1 := blk_frozen hm.blk 3
 have HM := Aside0.mk hm
 clear hm
 have HX := Aside0.mk hx
 clear hx
 have HE : Aside0 (failE x e0 = if e0 = 0 then x else e0) := ⟨rfl⟩
 by_cases h0 : e0 = 0
 · subst h0
   rw [HE.out, if_pos rfl]
   go_enter Try.func65, Try.ntmps65
   go_wp2
   go_end0
   refine ⟨rfl, none, 0, ⟨blk_put (blk_put HM.out.blk 3 _ rfl) 2 _ rfl, rest_nil _ _ _ _⟩, ?_⟩
   exact Chg.setCell (F := (· = gm)) (Chg.setCell (F := (· = gm)) (Chg.refl _ _) (p := ⟨gm, 3, none⟩) (Or.inl rfl) _) (p := ⟨gm, 2, none⟩) (Or.inl rfl) _
 · rw [HE.out, if_neg h0]
   have hb : (e0 == 0) = false := by simpa using h0
   have HL := Aside0.mk (HM.out.rest.flt h0)
   clear h0
   go_enter Try.func65, Try.ntmps65
   go_wp2
   go_end0
   have hl := HL.out
   subst hl
   exact ⟨rfl, Mt1.refl HM.out⟩
set_option maxHeartbeats 8000000 in
set_option maxRecDepth 100000 in
theorem mtake_fault1 (gm gb : Nat) (A : Option Addr) (c : Nat) (l : List Int) (e0 : Int) (y0 y1 : Value) (w : World) (hm : M1 w gm gb A c l e0 y0 y1) (n : Int) (he : e0 ≠ 0) :
 Calls Try.prog 64 #[.pointer (some ⟨gm, 2, none⟩), .int .i64 n] w fun e w' => e = .returned (.tuple #[.slice none 0 0, .bool false]) ∧ w' = w := by
 have hc0 : w.cell? ⟨gm, 2, none⟩ = some (.slice A l.length c) := (blk_cell hm.blk 2).trans rfl
 have hc1 : w.cell? ⟨gm, 3, none⟩ = some (.int .i64 e0) := (blk_cell hm.blk 3).trans rfl
 have hf0 := blk_frozen hm.blk 2
 have hf1 := blk_frozen hm.blk 3
 have HM := Aside0.mk hm
 clear hm
 have hb : (e0 == 0) = false := by simpa using he
 have hb2 : (e0 != 0) = true := by simpa using he
 clear he
 go_enter Try.func64, Try.ntmps64
 go_wp2
 go_ret2
 exact ⟨rfl, rfl⟩
set_option maxHeartbeats 8000000 in
set_option maxRecDepth 100000 in
theorem mtake_short1 (gm gb : Nat) (A : Option Addr) (c : Nat) (l : List Int) (y0 y1 : Value) (w : World) (hm : M1 w gm gb A c l 0 y0 y1) (n : Int) (hn : (l.length : Int) < n) :
 Calls Try.prog 64 #[.pointer (some ⟨gm, 2, none⟩), .int .i64 n] w fun e w' => e = .returned (.tuple #[.slice none 0 0, .bool false]) ∧ Mt1 gm gb [] 20 y0 y1 w w' := by
 have hc0 : w.cell? ⟨gm, 2, none⟩ = some (.slice A l.length c) := (blk_cell hm.blk 2).trans rfl
 have hc1 : w.cell? ⟨gm, 3, none⟩ = some (.int .i64 0) := (blk_cell hm.blk 3).trans rfl
 have hf0 := blk_frozen hm.blk 2
 have hf1 := blk_frozen hm.blk 3
 have HM := Aside0.mk hm
 clear hm
 go_enter Try.func64, Try.ntmps64
 go_wp2_with fail
 refine (mfail1 gm gb A c l 0 y0 y1 w HM.out 20 (by decide)).mono ?_
 rintro e w1 ⟨rfl, h⟩
 have H := Aside0.mk h
 clear h
 go_wp2
 go_ret2
 exact ⟨rfl, H.out⟩
set_option maxHeartbeats 8000000 in
set_option maxRecDepth 100000 in
theorem mtake1 (gm gb off : Nat) (c : Nat) (l : List Int) (y0 y1 : Value) (w : World) (hm : M1 w gm gb (some ⟨gb, off, none⟩) c l 0 y0 y1) (n : Nat) (hn : n ≤ l.length) :
 Calls Try.prog 64 #[.pointer (some ⟨gm, 2, none⟩), .int .i64 n] w fun e w' => e = .returned (.tuple #[.slice (some ⟨gb, off, none⟩) n c, .bool true]) ∧ Kd.C (Kd.int .u8) w' (some ⟨gb, off, none⟩) n (l.take n) ∧ Mt1 gm gb (l.drop n) 0 y0 y1 w w' := by
 have hc0 : w.cell? ⟨gm, 2, none⟩ = some (.slice (some ⟨gb, off, none⟩) l.length c) := (blk_cell hm.blk 2).trans rfl
 have hc1 : w.cell? ⟨gm, 3, none⟩ = some (.int .i64 0) := (blk_cell hm.blk 3).trans rfl
 have hf0 := blk_frozen hm.blk 2
 have hf1 := blk_frozen hm.blk 3
 have HM := Aside0.mk hm
 clear hm
 have hlt : ¬ l.length < n := by omega
 have hle := HM.out.rest.le
 have htop := HM.out.rest.top
 have hnc : n ≤ c := by omega
 have HN := Aside0.mk hn
 have HLE := Aside0.mk hle
 by_cases hc : c = n
 · subst hc
   go_enter Try.func64, Try.ntmps64
   go_wp2
   go_ret2
   have hg : ∀ k, k < w.heap.size → k ≠ gm → (w.setCell ⟨gm, 2, none⟩ (.slice (some ⟨gb, off, none⟩) 0 0)).heap[k]? = w.heap[k]? := fun k _ hk => Below.heap_setCell _ _ _ k hk
   have hr := (HM.out.rest.keep hg)
   have hd0 : l.drop c = [] := List.drop_eq_nil_of_le (by have := HLE.out; omega)
   rw [hd0]
   refine ⟨rfl, hr.take c HN.out, some ⟨gb, off, none⟩, 0, ⟨?_, hr.none0⟩, Chg.setCell (F := (· = gm)) (Chg.refl _ _) (p := ⟨gm, 2, none⟩) (Or.inl rfl) _⟩
   exact blk_put HM.out.blk 2 _ rfl
 · go_enter Try.func64, Try.ntmps64
   go_wp2
   go_ret2
   have hg : ∀ k, k < w.heap.size → k ≠ gm → (w.setCell ⟨gm, 2, none⟩ (.slice (some ⟨gb, off + n, none⟩) (l.length - n) (c - n))).heap[k]? = w.heap[k]? := fun k _ hk => Below.heap_setCell _ _ _ k hk
   have hr := (HM.out.rest.keep hg)
   refine ⟨rfl, hr.take n HN.out, some ⟨gb, off + n, none⟩, c - n, ⟨?_, hr.drop n HN.out⟩, Chg.setCell (F := (· = gm)) (Chg.refl _ _) (p := ⟨gm, 2, none⟩) (Or.inl rfl) _⟩
   rw [List.length_drop]
   exact blk_put HM.out.blk 2 _ rfl
set_option maxHeartbeats 8000000 in
set_option maxRecDepth 100000 in
theorem mtake_nil1 (gm gb : Nat) (y0 y1 : Value) (w : World) (hm : M1 w gm gb none 0 [] 0 y0 y1) :
 Calls Try.prog 64 #[.pointer (some ⟨gm, 2, none⟩), .int .i64 0] w fun e w' => e = .returned (.tuple #[.slice none 0 0, .bool true]) ∧ Mt1 gm gb [] 0 y0 y1 w w' := by
 have hc0 : w.cell? ⟨gm, 2, none⟩ = some (.slice none 0 0) := (blk_cell hm.blk 2).trans rfl
 have hc1 : w.cell? ⟨gm, 3, none⟩ = some (.int .i64 0) := (blk_cell hm.blk 3).trans rfl
 have hf0 := blk_frozen hm.blk 2
 have hf1 := blk_frozen hm.blk 3
 have HM := Aside0.mk hm
 clear hm
 go_enter Try.func64, Try.ntmps64
 go_wp2
 go_ret2
 exact ⟨rfl, none, 0, ⟨blk_put HM.out.blk 2 _ rfl, rest_nil _ _ _ _⟩, Chg.setCell (F := (· = gm)) (Chg.refl _ _) (p := ⟨gm, 2, none⟩) (Or.inl rfl) _⟩
set_option maxHeartbeats 8000000 in
set_option maxRecDepth 100000 in
theorem mend1 (gm gb : Nat) (A : Option Addr) (c : Nat) (l : List Int) (e0 : Int) (y0 y1 : Value) (w : World) (hm : M1 w gm gb A c l e0 y0 y1) :
 Calls Try.prog 36 #[.pointer (some ⟨gm, 2, none⟩)] w fun e w' => e = .returned (.int .i64 (endR l e0)) ∧ w' = w := by
 have hc0 : w.cell? ⟨gm, 2, none⟩ = some (.slice A l.length c) := (blk_cell hm.blk 2).trans rfl
 have hc1 : w.cell? ⟨gm, 3, none⟩ = some (.int .i64 e0) := (blk_cell hm.blk 3).trans rfl
 have hf0 := blk_frozen hm.blk 2
 have hf1 := blk_frozen hm.blk 3
 have HM := Aside0.mk hm
 clear hm
 have HE : Aside0 (endR l e0 = if e0 = 0 ∧ 0 < l.length then 20 else e0) := ⟨rfl⟩
 by_cases he : e0 = 0
 · subst he
   have hb : ((0 : Int) != 0) = false := rfl
   by_cases hl : 0 < l.length
   · rw [HE.out, if_pos ⟨rfl, hl⟩]
     have hl2 : (0 : Int) < l.length := by omega
     go_enter Try.func36, Try.ntmps36
     go_wp2
     go_ret
     exact ⟨rfl, rfl⟩
   · rw [HE.out, if_neg (fun q => hl q.2)]
     have hl2 : ¬ (0 : Int) < l.length := by omega
     go_enter Try.func36, Try.ntmps36
     go_wp2
     go_ret
     exact ⟨rfl, rfl⟩
 · rw [HE.out, if_neg (fun q => he q.1)]
   have hb2 : (e0 != 0) = true := by simpa using he
   clear he
   go_enter Try.func36, Try.ntmps36
   go_wp2
   go_ret
   exact ⟨rfl, rfl⟩
set_option maxHeartbeats 8000000 in
set_option maxRecDepth 100000 in
theorem mbyte1 (gm gb : Nat) (A : Option Addr) (c : Nat) (l : List Int) (e0 : Int) (y0 y1 : Value) (w : World) (hm : M1 w gm gb A c l e0 y0 y1) :
 Calls Try.prog 56 #[.pointer (some ⟨gm, 2, none⟩)] w fun e w' => e = .returned (.int .u8 (byteR l e0).1) ∧ Mt1 gm gb (byteR l e0).2.1 (byteR l e0).2.2 y0 y1 w w' := by
 by_cases he : e0 = 0
 · subst he
   by_cases hn : 1 ≤ l.length
   · rcases hm.rest.src with ⟨_, q, _⟩ | ⟨off, cs, t, rfl, _⟩
     · subst q; simp at hn
     · have HT := Aside0.mk (mtake1 gm gb off c l y0 y1 w hm 1 hn)
       have HLE := Aside0.mk hm.rest.le
       clear hm
       cases l with
       | nil => simp at hn
       | cons b t =>
        clear hn
        go_enter Try.func56, Try.ntmps56
        go_wp2_with fail
        refine HT.out.mono ?_
        rintro e w1 ⟨rfl, hC, hM⟩
        have hcell : w1.cell? ⟨gb, off, none⟩ = some (.int .u8 b) := by
         have := C_read hC 0 (by omega)
         rwa [add_zero] at this
        have HM := Aside0.mk hM
        clear hC hM
        go_wp2
        go_ret
        exact ⟨rfl, HM.out⟩
   · have HT := Aside0.mk (mtake_short1 gm gb A c l y0 y1 w hm 1 (by omega))
     clear hm
     have hl : l = [] := List.eq_nil_of_length_eq_zero (by omega)
     subst hl
     clear hn
     go_enter Try.func56, Try.ntmps56
     go_wp2_with fail
     refine HT.out.mono ?_
     rintro e w1 ⟨rfl, hM⟩
     have HM := Aside0.mk hM
     clear hM
     go_wp2
     go_ret
     exact ⟨rfl, HM.out⟩
 · have hl := hm.rest.flt he
   subst hl
   have HT := Aside0.mk (mtake_fault1 gm gb A c [] e0 y0 y1 w hm 1 he)
   have HM0 := Aside0.mk hm
   clear hm
   rw [show byteR [] e0 = (0, [], e0) by simp [byteR, he]]
   clear he
   go_enter Try.func56, Try.ntmps56
   go_wp2_with fail
   refine HT.out.mono ?_
   rintro e w1 ⟨rfl, rfl⟩
   go_wp2
   go_ret
   exact ⟨rfl, Mt1.refl HM0.out⟩
end Go.Proofs.Ytjijmikpoenbcaa.Codec
/- The document's readers, method by method. Written by wip/gen/meant.py. -/
namespace Go.Proofs.Ytjijmikpoenbcaa.Codec
open Go.RowKit Go.Proofs.YtjijmikpoenbcaaW.PrintWords Go.Proofs.YtjijmikpoenbcaaW.PrintLast Go.Proofs.YtjijmikpoenbcaaW.PrintMore
set_option linter.unusedVariables false
set_option linter.unusedSimpArgs false
def p128 (i : Nat) : Nat := 128 ^ i
theorem wrap_sum (acc i : Nat) (b : Int) (ha : acc < 128 ^ i) (hi : i ≤ 9) (h9 : i = 9 → b ≤ 1) (h0 : 0 ≤ b) (h1 : b < 256) : IntKind.u64.wrap ((acc : Int) + IntKind.u64.wrap ((p128 i : Nat) * (b % 128))) = ((acc + b.toNat % 128 * 128 ^ i : Nat) : Int) := by
 obtain ⟨k, rfl⟩ := Int.eq_ofNat_of_zero_le h0
 rw [Int.toNat_natCast]
 have hk : k % 128 * 128 ^ i < 9223372036854775809 := by
  by_cases q : i = 9
  · subst q
    have := h9 rfl
    have : k % 128 ≤ 1 := by omega
    have h : k % 128 * 128 ^ 9 ≤ 1 * 128 ^ 9 := Nat.mul_le_mul_right _ this
    omega
  · have h2 : (128 : Nat) ^ i ≤ 128 ^ 8 := Nat.pow_le_pow_right (by omega) (by omega)
    have h3 : k % 128 * 128 ^ i ≤ 127 * 128 ^ 8 := Nat.mul_le_mul (by omega) h2
    omega
 have hn2 : acc < 9223372036854775808 := by
  have h2 : (128 : Nat) ^ i ≤ 128 ^ 9 := Nat.pow_le_pow_right (by omega) hi
  have e : (128 : Nat) ^ 9 = 9223372036854775808 := by decide
  omega
 have e2 : ((p128 i : Nat) : Int) * ((k : Int) % 128) = ((k % 128 * 128 ^ i : Nat) : Int) := by
  unfold p128
  rw [Int.natCast_mul, Int.mul_comm]
  congr 1
 have e3 : IntKind.u64.wrap ((k % 128 * 128 ^ i : Nat) : Int) = ((k % 128 * 128 ^ i : Nat) : Int) := wrap_u64_nonneg (by omega) (by omega)
 rw [e2, e3, wrap_u64_nonneg (by omega) (by omega)]
 omega
theorem wrap_scale (i : Nat) (hi : i ≤ 8) : IntKind.u64.wrap (((p128 i : Nat) : Int) * 128) = ((p128 (i + 1) : Nat) : Int) := by
 have h2 : (128 : Nat) ^ (i + 1) ≤ 128 ^ 9 := Nat.pow_le_pow_right (by omega) (by omega)
 have e : (128 : Nat) ^ 9 = 9223372036854775808 := by decide
 have e2 : ((p128 i : Nat) : Int) * 128 = ((p128 (i + 1) : Nat) : Int) := by
  unfold p128
  rw [Nat.pow_succ, Int.natCast_mul]
  rfl
 rw [e2, wrap_u64_nonneg (by omega) (by unfold p128; omega)]
set_option maxHeartbeats 8000000 in
set_option maxRecDepth 100000 in
theorem mvar0 (gm gb : Nat) (A : Option Addr) (c : Nat) (l : List Int) (e0 : Int) (y0 y1 : Value) (w : World) (hm : M0 w gm gb A c l e0 y0 y1) (hby : IsBytes l) :
 Calls Try.prog 58 #[.pointer (some ⟨gm, 0, none⟩)] w fun e w' => e = .returned (.int .u64 (varR l e0).1) ∧ Mt0 gm gb (varR l e0).2.1 (varR l e0).2.2 y0 y1 w w' := by
 by_cases he : e0 = 0
 · subst he
   have hv : varR l 0 = (if (numR 0 0 l).2.1 = 0 then ((numR 0 0 l).1, (numR 0 0 l).2.2.1, (numR 0 0 l).2.2.2) else ((numR 0 0 l).1, [], failE (numR 0 0 l).2.1 (numR 0 0 l).2.2.2)) := by simp [varR]
   obtain ⟨n, l1, e1, hres⟩ : ∃ n l1 e1, varR l 0 = (n, l1, e1) := ⟨_, _, _, rfl⟩
   rw [hres]
   have HRES : Aside0 ((if (numR 0 0 l).2.1 = 0 then ((numR 0 0 l).1, (numR 0 0 l).2.2.1, (numR 0 0 l).2.2.2) else ((numR 0 0 l).1, [], failE (numR 0 0 l).2.1 (numR 0 0 l).2.2.2)) = (n, l1, e1)) := ⟨by rw [← hv, hres]⟩
   clear hv hres
   have hc0 : w.cell? ⟨gm, 0, none⟩ = some (.slice A l.length c) := (blk_cell hm.blk 0).trans rfl
   have hc1 : w.cell? ⟨gm, 1, none⟩ = some (.int .i64 0) := (blk_cell hm.blk 1).trans rfl
   have hf0 := blk_frozen hm.blk 0
   have HM := Aside0.mk hm
   have HBY := Aside0.mk hby
   clear hm hby
   go_enter Try.func58, Try.ntmps58
   go_wp2
   go_loopg [3, 4, 5] 10 (fun kq v3 v4 v5 wr => ∃ (i acc : Nat), v3 = .int .u64 acc ∧ v4 = .int .u64 (p128 i) ∧ v5 = .int .i64 i ∧ Aside0 (i + kq = 10 ∧ i ≤ 9 ∧ acc < 128 ^ i ∧ i ≤ l.length) ∧ Aside0 (numR i acc (l.drop i) = numR 0 0 l) ∧ Aside0 (wr = w))
   case atStart => exact ⟨0, 0, rfl, rfl, rfl, ⟨by omega, by omega, by omega, by omega⟩, ⟨rfl⟩, ⟨rfl⟩⟩
   case round =>
    obtain ⟨i, acc, rfl, rfl, rfl, HI, HN, HW⟩ := hrel
    have hww := HW.out
    subst hww
    clear HW
    by_cases hil : l.length ≤ i
    · have hge : (l.length : Int) ≤ i := by omega
      have HE2 : Aside0 ((n, l1, e1) = (0, ([] : List Int), (20 : Int))) := ⟨by rw [← HRES.out, ← HN.out, List.drop_eq_nil_of_le hil]; rfl⟩
      clear hil
      have hi9 := HI.out.2.1
      go_wp2_with fail
      refine (mfail0 gm gb A c l 0 y0 y1 wr HM.out 20 (by decide)).mono ?_
      rintro e w1 ⟨rfl, h⟩
      have H := Aside0.mk h
      clear h
      go_wp2
      go_ret
      cases HE2.out
      exact ⟨rfl, H.out⟩
    · have hlt : (i : Int) < l.length := by omega
      have hnge : ¬ (l.length : Int) ≤ i := by omega
      have HIL : Aside0 (i + 1 ≤ l.length) := ⟨by omega⟩
      rcases HM.out.rest.src with ⟨_, q, _⟩ | ⟨off, cs, t, rfl, _⟩
      · subst q; simp at hil
      · have HC := Aside0.mk HM.out.rest.rdg
        obtain ⟨b, hb⟩ : ∃ b, b = l[i]'(by omega) := ⟨_, rfl⟩
        have hdrop : l.drop i = b :: l.drop (i + 1) := by rw [List.drop_eq_getElem_cons (by omega), ← hb]
        have hcell : wr.cell? ⟨gb, off + i, none⟩ = some (.int .u8 b) := by
         have h0 := C_read HC.out i (by omega)
         rw [add_off] at h0
         rw [h0, hb]
         simp [rd, List.getD, show i < l.length by omega]
        have hbb := HBY.out b (by rw [hb]; exact List.getElem_mem _)
        rw [hdrop] at HN
        have hic : i + 1 ≤ c := by have := HM.out.rest.le; omega
        have htop := HM.out.rest.top
        have hi9 := HI.out.2.1
        clear hb hdrop hil HC
        have hcases : (i = 9 ∧ 1 < b) ∨ (i = 9 ∧ b = 0) ∨ (i = 9 ∧ b = 1) ∨ (i = 0 ∧ b < 128) ∨ (i = 0 ∧ 128 ≤ b) ∨ (i ≠ 9 ∧ 0 < i ∧ b = 0) ∨ (i ≠ 9 ∧ 0 < i ∧ b ≠ 0 ∧ b < 128) ∨ (i ≠ 9 ∧ 0 < i ∧ 128 ≤ b) := by omega
        have HBB := Aside0.mk hbb
        rcases hcases with ⟨hi, h1⟩ | ⟨hi, h1⟩ | ⟨hi, h1⟩ | ⟨hi, h1⟩ | ⟨hi, h1⟩ | ⟨h9, h0, h1⟩ | ⟨h9, h0, hb0, h1⟩ | ⟨h9, h0, h1⟩
        · subst hi
          have HE2 : Aside0 ((n, l1, e1) = (0, ([] : List Int), (21 : Int))) := ⟨by rw [← HRES.out, ← HN.out]; simp [numR, failE, h1]⟩
          go_wp2_with fail
          refine (mfail0 gm gb _ c l 0 y0 y1 wr HM.out 21 (by decide)).mono ?_
          rintro e w1 ⟨rfl, h⟩
          have H := Aside0.mk h
          clear h
          go_wp2
          go_ret
          cases HE2.out
          exact ⟨rfl, H.out⟩
        · subst hi
          subst h1
          have HE2 : Aside0 ((n, l1, e1) = (0, ([] : List Int), (21 : Int))) := ⟨by rw [← HRES.out, ← HN.out]; simp [numR, failE]⟩
          go_wp2_with fail
          refine (mfail0 gm gb _ c l 0 y0 y1 wr HM.out 21 (by decide)).mono ?_
          rintro e w1 ⟨rfl, h⟩
          have H := Aside0.mk h
          clear h
          go_wp2
          go_ret
          cases HE2.out
          exact ⟨rfl, H.out⟩
        · subst hi
          subst h1
          have HE2 : Aside0 ((n, l1, e1) = (acc + (1 : Int).toNat % 128 * 128 ^ 9, l.drop (9 + 1), (0 : Int))) := ⟨by rw [← HRES.out, ← HN.out]; simp [numR]⟩
          have HS := Aside0.mk (wrap_sum acc 9 1 HI.out.2.2.1 HI.out.2.1 (by omega) HBB.out.1 HBB.out.2)
          have hmod : Int.tmod 1 128 = 1 % 128 := Int.tmod_eq_emod_of_nonneg HBB.out.1
          by_cases hci : c = 9 + 1
          · subst hci
            go_wp2
            go_ret
            cases HE2.out
            have hg : ∀ k, k < wr.heap.size → k ≠ gm → (wr.setCell ⟨gm, 0, none⟩ (.slice (some ⟨gb, off, none⟩) (l.length - (9 + 1)) 0)).heap[k]? = wr.heap[k]? := fun k _ hk => Below.heap_setCell _ _ _ k hk
            have hr := (HM.out.rest.keep hg)
            have hd0 : l.drop (9 + 1) = [] := List.drop_eq_nil_of_le HM.out.rest.le
            have hl0 : l.length - (9 + 1) = 0 := Nat.sub_eq_zero_of_le HM.out.rest.le
            refine ⟨congrArg (fun z => Ending.returned (.int .u64 z)) HS.out, some ⟨gb, off, none⟩, 0, ⟨?_, by rw [hd0]; exact hr.none0⟩, Chg.setCell (F := (· = gm)) (Chg.refl _ _) (p := ⟨gm, 0, none⟩) (Or.inl rfl) _⟩
            rw [hd0]
            refine (blk_put HM.out.blk 0 (.slice (some ⟨gb, off, none⟩) (l.length - (9 + 1)) 0) rfl).trans ?_
            rw [hl0]
            rfl
          · go_wp2
            go_ret
            cases HE2.out
            have hg : ∀ k, k < wr.heap.size → k ≠ gm → (wr.setCell ⟨gm, 0, none⟩ (.slice (some ⟨gb, off + (9 + 1), none⟩) (l.length - (9 + 1)) (c - (9 + 1)))).heap[k]? = wr.heap[k]? := fun k _ hk => Below.heap_setCell _ _ _ k hk
            have hr := (HM.out.rest.keep hg)
            refine ⟨congrArg (fun z => Ending.returned (.int .u64 z)) HS.out, some ⟨gb, off + (9 + 1), none⟩, c - (9 + 1), ⟨?_, hr.drop (9 + 1) HIL.out⟩, Chg.setCell (F := (· = gm)) (Chg.refl _ _) (p := ⟨gm, 0, none⟩) (Or.inl rfl) _⟩
            rw [List.length_drop]
            exact blk_put HM.out.blk 0 _ rfl
        · have h9 : i ≠ 9 := by omega
          have h0 : ¬ 0 < i := by omega
          clear hi
          have HE2 : Aside0 ((n, l1, e1) = (acc + b.toNat % 128 * 128 ^ i, l.drop (i + 1), (0 : Int))) := ⟨by rw [← HRES.out, ← HN.out]; simp [numR, h9, h0, h1]⟩
          have HS := Aside0.mk (wrap_sum acc i b HI.out.2.2.1 HI.out.2.1 (by omega) HBB.out.1 HBB.out.2)
          have hmod : Int.tmod b 128 = b % 128 := Int.tmod_eq_emod_of_nonneg HBB.out.1
          by_cases hci : c = i + 1
          · subst hci
            go_wp2
            go_ret
            cases HE2.out
            have hg : ∀ k, k < wr.heap.size → k ≠ gm → (wr.setCell ⟨gm, 0, none⟩ (.slice (some ⟨gb, off, none⟩) (l.length - (i + 1)) 0)).heap[k]? = wr.heap[k]? := fun k _ hk => Below.heap_setCell _ _ _ k hk
            have hr := (HM.out.rest.keep hg)
            have hd0 : l.drop (i + 1) = [] := List.drop_eq_nil_of_le HM.out.rest.le
            have hl0 : l.length - (i + 1) = 0 := Nat.sub_eq_zero_of_le HM.out.rest.le
            refine ⟨congrArg (fun z => Ending.returned (.int .u64 z)) HS.out, some ⟨gb, off, none⟩, 0, ⟨?_, by rw [hd0]; exact hr.none0⟩, Chg.setCell (F := (· = gm)) (Chg.refl _ _) (p := ⟨gm, 0, none⟩) (Or.inl rfl) _⟩
            rw [hd0]
            refine (blk_put HM.out.blk 0 (.slice (some ⟨gb, off, none⟩) (l.length - (i + 1)) 0) rfl).trans ?_
            rw [hl0]
            rfl
          · go_wp2
            go_ret
            cases HE2.out
            have hg : ∀ k, k < wr.heap.size → k ≠ gm → (wr.setCell ⟨gm, 0, none⟩ (.slice (some ⟨gb, off + (i + 1), none⟩) (l.length - (i + 1)) (c - (i + 1)))).heap[k]? = wr.heap[k]? := fun k _ hk => Below.heap_setCell _ _ _ k hk
            have hr := (HM.out.rest.keep hg)
            refine ⟨congrArg (fun z => Ending.returned (.int .u64 z)) HS.out, some ⟨gb, off + (i + 1), none⟩, c - (i + 1), ⟨?_, hr.drop (i + 1) HIL.out⟩, Chg.setCell (F := (· = gm)) (Chg.refl _ _) (p := ⟨gm, 0, none⟩) (Or.inl rfl) _⟩
            rw [List.length_drop]
            exact blk_put HM.out.blk 0 _ rfl
        · have h9 : i ≠ 9 := by omega
          have h0 : ¬ 0 < i := by omega
          clear hi
          have h128_ : ¬ b < 128 := by omega
          have HS := Aside0.mk (wrap_sum acc i b HI.out.2.2.1 HI.out.2.1 (by omega) HBB.out.1 HBB.out.2)
          have HSC := Aside0.mk (wrap_scale i (by omega))
          have hmod : Int.tmod b 128 = b % 128 := Int.tmod_eq_emod_of_nonneg HBB.out.1
          have h128 : ¬ b < 128 := by omega
          have HN2 : Aside0 (numR (i + 1) (acc + b.toNat % 128 * 128 ^ i) (l.drop (i + 1)) = numR 0 0 l) := ⟨by rw [← HN.out]; simp [numR, h9, h0, h128_]⟩
          obtain ⟨kk, rfl⟩ : ∃ kk, gk = kk + 1 := ⟨gk - 1, by have := HI.out; omega⟩
          go_wp2
          go_roundg kk
          case measure => omega
          case rel => exact ⟨i + 1, acc + b.toNat % 128 * 128 ^ i, congrArg (Value.int .u64) HS.out, congrArg (Value.int .u64) HSC.out, by first | rfl | simp, ⟨by have := HI.out; omega, by omega, step_lt acc i b HI.out.2.2.1, HIL.out⟩, HN2, ⟨rfl⟩⟩
        · subst h1
          have HE2 : Aside0 ((n, l1, e1) = (0, ([] : List Int), (21 : Int))) := ⟨by rw [← HRES.out, ← HN.out]; simp [numR, failE, h0]⟩
          go_wp2_with fail
          refine (mfail0 gm gb _ c l 0 y0 y1 wr HM.out 21 (by decide)).mono ?_
          rintro e w1 ⟨rfl, h⟩
          have H := Aside0.mk h
          clear h
          go_wp2
          go_ret
          cases HE2.out
          exact ⟨rfl, H.out⟩
        · have HE2 : Aside0 ((n, l1, e1) = (acc + b.toNat % 128 * 128 ^ i, l.drop (i + 1), (0 : Int))) := ⟨by rw [← HRES.out, ← HN.out]; simp [numR, h9, h0, hb0, h1]⟩
          have HS := Aside0.mk (wrap_sum acc i b HI.out.2.2.1 HI.out.2.1 (by omega) HBB.out.1 HBB.out.2)
          have hmod : Int.tmod b 128 = b % 128 := Int.tmod_eq_emod_of_nonneg HBB.out.1
          by_cases hci : c = i + 1
          · subst hci
            go_wp2
            go_ret
            cases HE2.out
            have hg : ∀ k, k < wr.heap.size → k ≠ gm → (wr.setCell ⟨gm, 0, none⟩ (.slice (some ⟨gb, off, none⟩) (l.length - (i + 1)) 0)).heap[k]? = wr.heap[k]? := fun k _ hk => Below.heap_setCell _ _ _ k hk
            have hr := (HM.out.rest.keep hg)
            have hd0 : l.drop (i + 1) = [] := List.drop_eq_nil_of_le HM.out.rest.le
            have hl0 : l.length - (i + 1) = 0 := Nat.sub_eq_zero_of_le HM.out.rest.le
            refine ⟨congrArg (fun z => Ending.returned (.int .u64 z)) HS.out, some ⟨gb, off, none⟩, 0, ⟨?_, by rw [hd0]; exact hr.none0⟩, Chg.setCell (F := (· = gm)) (Chg.refl _ _) (p := ⟨gm, 0, none⟩) (Or.inl rfl) _⟩
            rw [hd0]
            refine (blk_put HM.out.blk 0 (.slice (some ⟨gb, off, none⟩) (l.length - (i + 1)) 0) rfl).trans ?_
            rw [hl0]
            rfl
          · go_wp2
            go_ret
            cases HE2.out
            have hg : ∀ k, k < wr.heap.size → k ≠ gm → (wr.setCell ⟨gm, 0, none⟩ (.slice (some ⟨gb, off + (i + 1), none⟩) (l.length - (i + 1)) (c - (i + 1)))).heap[k]? = wr.heap[k]? := fun k _ hk => Below.heap_setCell _ _ _ k hk
            have hr := (HM.out.rest.keep hg)
            refine ⟨congrArg (fun z => Ending.returned (.int .u64 z)) HS.out, some ⟨gb, off + (i + 1), none⟩, c - (i + 1), ⟨?_, hr.drop (i + 1) HIL.out⟩, Chg.setCell (F := (· = gm)) (Chg.refl _ _) (p := ⟨gm, 0, none⟩) (Or.inl rfl) _⟩
            rw [List.length_drop]
            exact blk_put HM.out.blk 0 _ rfl
        · have h128_ : ¬ b < 128 := by omega
          have hb0 : b ≠ 0 := by omega
          have HS := Aside0.mk (wrap_sum acc i b HI.out.2.2.1 HI.out.2.1 (by omega) HBB.out.1 HBB.out.2)
          have HSC := Aside0.mk (wrap_scale i (by omega))
          have hmod : Int.tmod b 128 = b % 128 := Int.tmod_eq_emod_of_nonneg HBB.out.1
          have h128 : ¬ b < 128 := by omega
          have HN2 : Aside0 (numR (i + 1) (acc + b.toNat % 128 * 128 ^ i) (l.drop (i + 1)) = numR 0 0 l) := ⟨by rw [← HN.out]; simp [numR, h9, h0, hb0, h128_]⟩
          obtain ⟨kk, rfl⟩ : ∃ kk, gk = kk + 1 := ⟨gk - 1, by have := HI.out; omega⟩
          go_wp2
          go_roundg kk
          case measure => omega
          case rel => exact ⟨i + 1, acc + b.toNat % 128 * 128 ^ i, congrArg (Value.int .u64) HS.out, congrArg (Value.int .u64) HSC.out, by first | rfl | simp, ⟨by have := HI.out; omega, by omega, step_lt acc i b HI.out.2.2.1, HIL.out⟩, HN2, ⟨rfl⟩⟩
 · have hl := hm.rest.flt he
   subst hl
   have hc1 : w.cell? ⟨gm, 1, none⟩ = some (.int .i64 e0) := (blk_cell hm.blk 1).trans rfl
   rw [show varR [] e0 = (0, [], e0) by simp [varR, he]]
   have hb2 : (e0 != 0) = true := by simpa using he
   have HM := Aside0.mk hm
   clear he hm
   go_enter Try.func58, Try.ntmps58
   go_wp2
   go_ret
   exact ⟨rfl, Mt0.refl HM.out⟩
set_option maxHeartbeats 8000000 in
set_option maxRecDepth 100000 in
theorem mvar1 (gm gb : Nat) (A : Option Addr) (c : Nat) (l : List Int) (e0 : Int) (y0 y1 : Value) (w : World) (hm : M1 w gm gb A c l e0 y0 y1) (hby : IsBytes l) :
 Calls Try.prog 58 #[.pointer (some ⟨gm, 2, none⟩)] w fun e w' => e = .returned (.int .u64 (varR l e0).1) ∧ Mt1 gm gb (varR l e0).2.1 (varR l e0).2.2 y0 y1 w w' := by
 by_cases he : e0 = 0
 · subst he
   have hv : varR l 0 = (if (numR 0 0 l).2.1 = 0 then ((numR 0 0 l).1, (numR 0 0 l).2.2.1, (numR 0 0 l).2.2.2) else ((numR 0 0 l).1, [], failE (numR 0 0 l).2.1 (numR 0 0 l).2.2.2)) := by simp [varR]
   obtain ⟨n, l1, e1, hres⟩ : ∃ n l1 e1, varR l 0 = (n, l1, e1) := ⟨_, _, _, rfl⟩
   rw [hres]
   have HRES : Aside0 ((if (numR 0 0 l).2.1 = 0 then ((numR 0 0 l).1, (numR 0 0 l).2.2.1, (numR 0 0 l).2.2.2) else ((numR 0 0 l).1, [], failE (numR 0 0 l).2.1 (numR 0 0 l).2.2.2)) = (n, l1, e1)) := ⟨by rw [← hv, hres]⟩
   clear hv hres
   have hc0 : w.cell? ⟨gm, 2, none⟩ = some (.slice A l.length c) := (blk_cell hm.blk 2).trans rfl
   have hc1 : w.cell? ⟨gm, 3, none⟩ = some (.int .i64 0) := (blk_cell hm.blk 3).trans rfl
   have hf0 := blk_frozen hm.blk 2
   have HM := Aside0.mk hm
   have HBY := Aside0.mk hby
   clear hm hby
   go_enter Try.func58, Try.ntmps58
   go_wp2
   go_loopg [3, 4, 5] 10 (fun kq v3 v4 v5 wr => ∃ (i acc : Nat), v3 = .int .u64 acc ∧ v4 = .int .u64 (p128 i) ∧ v5 = .int .i64 i ∧ Aside0 (i + kq = 10 ∧ i ≤ 9 ∧ acc < 128 ^ i ∧ i ≤ l.length) ∧ Aside0 (numR i acc (l.drop i) = numR 0 0 l) ∧ Aside0 (wr = w))
   case atStart => exact ⟨0, 0, rfl, rfl, rfl, ⟨by omega, by omega, by omega, by omega⟩, ⟨rfl⟩, ⟨rfl⟩⟩
   case round =>
    obtain ⟨i, acc, rfl, rfl, rfl, HI, HN, HW⟩ := hrel
    have hww := HW.out
    subst hww
    clear HW
    by_cases hil : l.length ≤ i
    · have hge : (l.length : Int) ≤ i := by omega
      have HE2 : Aside0 ((n, l1, e1) = (0, ([] : List Int), (20 : Int))) := ⟨by rw [← HRES.out, ← HN.out, List.drop_eq_nil_of_le hil]; rfl⟩
      clear hil
      have hi9 := HI.out.2.1
      go_wp2_with fail
      refine (mfail1 gm gb A c l 0 y0 y1 wr HM.out 20 (by decide)).mono ?_
      rintro e w1 ⟨rfl, h⟩
      have H := Aside0.mk h
      clear h
      go_wp2
      go_ret
      cases HE2.out
      exact ⟨rfl, H.out⟩
    · have hlt : (i : Int) < l.length := by omega
      have hnge : ¬ (l.length : Int) ≤ i := by omega
      have HIL : Aside0 (i + 1 ≤ l.length) := ⟨by omega⟩
      rcases HM.out.rest.src with ⟨_, q, _⟩ | ⟨off, cs, t, rfl, _⟩
      · subst q; simp at hil
      · have HC := Aside0.mk HM.out.rest.rdg
        obtain ⟨b, hb⟩ : ∃ b, b = l[i]'(by omega) := ⟨_, rfl⟩
        have hdrop : l.drop i = b :: l.drop (i + 1) := by rw [List.drop_eq_getElem_cons (by omega), ← hb]
        have hcell : wr.cell? ⟨gb, off + i, none⟩ = some (.int .u8 b) := by
         have h0 := C_read HC.out i (by omega)
         rw [add_off] at h0
         rw [h0, hb]
         simp [rd, List.getD, show i < l.length by omega]
        have hbb := HBY.out b (by rw [hb]; exact List.getElem_mem _)
        rw [hdrop] at HN
        have hic : i + 1 ≤ c := by have := HM.out.rest.le; omega
        have htop := HM.out.rest.top
        have hi9 := HI.out.2.1
        clear hb hdrop hil HC
        have hcases : (i = 9 ∧ 1 < b) ∨ (i = 9 ∧ b = 0) ∨ (i = 9 ∧ b = 1) ∨ (i = 0 ∧ b < 128) ∨ (i = 0 ∧ 128 ≤ b) ∨ (i ≠ 9 ∧ 0 < i ∧ b = 0) ∨ (i ≠ 9 ∧ 0 < i ∧ b ≠ 0 ∧ b < 128) ∨ (i ≠ 9 ∧ 0 < i ∧ 128 ≤ b) := by omega
        have HBB := Aside0.mk hbb
        rcases hcases with ⟨hi, h1⟩ | ⟨hi, h1⟩ | ⟨hi, h1⟩ | ⟨hi, h1⟩ | ⟨hi, h1⟩ | ⟨h9, h0, h1⟩ | ⟨h9, h0, hb0, h1⟩ | ⟨h9, h0, h1⟩
        · subst hi
          have HE2 : Aside0 ((n, l1, e1) = (0, ([] : List Int), (21 : Int))) := ⟨by rw [← HRES.out, ← HN.out]; simp [numR, failE, h1]⟩
          go_wp2_with fail
          refine (mfail1 gm gb _ c l 0 y0 y1 wr HM.out 21 (by decide)).mono ?_
          rintro e w1 ⟨rfl, h⟩
          have H := Aside0.mk h
          clear h
          go_wp2
          go_ret
          cases HE2.out
          exact ⟨rfl, H.out⟩
        · subst hi
          subst h1
          have HE2 : Aside0 ((n, l1, e1) = (0, ([] : List Int), (21 : Int))) := ⟨by rw [← HRES.out, ← HN.out]; simp [numR, failE]⟩
          go_wp2_with fail
          refine (mfail1 gm gb _ c l 0 y0 y1 wr HM.out 21 (by decide)).mono ?_
          rintro e w1 ⟨rfl, h⟩
          have H := Aside0.mk h
          clear h
          go_wp2
          go_ret
          cases HE2.out
          exact ⟨rfl, H.out⟩
        · subst hi
          subst h1
          have HE2 : Aside0 ((n, l1, e1) = (acc + (1 : Int).toNat % 128 * 128 ^ 9, l.drop (9 + 1), (0 : Int))) := ⟨by rw [← HRES.out, ← HN.out]; simp [numR]⟩
          have HS := Aside0.mk (wrap_sum acc 9 1 HI.out.2.2.1 HI.out.2.1 (by omega) HBB.out.1 HBB.out.2)
          have hmod : Int.tmod 1 128 = 1 % 128 := Int.tmod_eq_emod_of_nonneg HBB.out.1
          by_cases hci : c = 9 + 1
          · subst hci
            go_wp2
            go_ret
            cases HE2.out
            have hg : ∀ k, k < wr.heap.size → k ≠ gm → (wr.setCell ⟨gm, 2, none⟩ (.slice (some ⟨gb, off, none⟩) (l.length - (9 + 1)) 0)).heap[k]? = wr.heap[k]? := fun k _ hk => Below.heap_setCell _ _ _ k hk
            have hr := (HM.out.rest.keep hg)
            have hd0 : l.drop (9 + 1) = [] := List.drop_eq_nil_of_le HM.out.rest.le
            have hl0 : l.length - (9 + 1) = 0 := Nat.sub_eq_zero_of_le HM.out.rest.le
            refine ⟨congrArg (fun z => Ending.returned (.int .u64 z)) HS.out, some ⟨gb, off, none⟩, 0, ⟨?_, by rw [hd0]; exact hr.none0⟩, Chg.setCell (F := (· = gm)) (Chg.refl _ _) (p := ⟨gm, 2, none⟩) (Or.inl rfl) _⟩
            rw [hd0]
            refine (blk_put HM.out.blk 2 (.slice (some ⟨gb, off, none⟩) (l.length - (9 + 1)) 0) rfl).trans ?_
            rw [hl0]
            rfl
          · go_wp2
            go_ret
            cases HE2.out
            have hg : ∀ k, k < wr.heap.size → k ≠ gm → (wr.setCell ⟨gm, 2, none⟩ (.slice (some ⟨gb, off + (9 + 1), none⟩) (l.length - (9 + 1)) (c - (9 + 1)))).heap[k]? = wr.heap[k]? := fun k _ hk => Below.heap_setCell _ _ _ k hk
            have hr := (HM.out.rest.keep hg)
            refine ⟨congrArg (fun z => Ending.returned (.int .u64 z)) HS.out, some ⟨gb, off + (9 + 1), none⟩, c - (9 + 1), ⟨?_, hr.drop (9 + 1) HIL.out⟩, Chg.setCell (F := (· = gm)) (Chg.refl _ _) (p := ⟨gm, 2, none⟩) (Or.inl rfl) _⟩
            rw [List.length_drop]
            exact blk_put HM.out.blk 2 _ rfl
        · have h9 : i ≠ 9 := by omega
          have h0 : ¬ 0 < i := by omega
          clear hi
          have HE2 : Aside0 ((n, l1, e1) = (acc + b.toNat % 128 * 128 ^ i, l.drop (i + 1), (0 : Int))) := ⟨by rw [← HRES.out, ← HN.out]; simp [numR, h9, h0, h1]⟩
          have HS := Aside0.mk (wrap_sum acc i b HI.out.2.2.1 HI.out.2.1 (by omega) HBB.out.1 HBB.out.2)
          have hmod : Int.tmod b 128 = b % 128 := Int.tmod_eq_emod_of_nonneg HBB.out.1
          by_cases hci : c = i + 1
          · subst hci
            go_wp2
            go_ret
            cases HE2.out
            have hg : ∀ k, k < wr.heap.size → k ≠ gm → (wr.setCell ⟨gm, 2, none⟩ (.slice (some ⟨gb, off, none⟩) (l.length - (i + 1)) 0)).heap[k]? = wr.heap[k]? := fun k _ hk => Below.heap_setCell _ _ _ k hk
            have hr := (HM.out.rest.keep hg)
            have hd0 : l.drop (i + 1) = [] := List.drop_eq_nil_of_le HM.out.rest.le
            have hl0 : l.length - (i + 1) = 0 := Nat.sub_eq_zero_of_le HM.out.rest.le
            refine ⟨congrArg (fun z => Ending.returned (.int .u64 z)) HS.out, some ⟨gb, off, none⟩, 0, ⟨?_, by rw [hd0]; exact hr.none0⟩, Chg.setCell (F := (· = gm)) (Chg.refl _ _) (p := ⟨gm, 2, none⟩) (Or.inl rfl) _⟩
            rw [hd0]
            refine (blk_put HM.out.blk 2 (.slice (some ⟨gb, off, none⟩) (l.length - (i + 1)) 0) rfl).trans ?_
            rw [hl0]
            rfl
          · go_wp2
            go_ret
            cases HE2.out
            have hg : ∀ k, k < wr.heap.size → k ≠ gm → (wr.setCell ⟨gm, 2, none⟩ (.slice (some ⟨gb, off + (i + 1), none⟩) (l.length - (i + 1)) (c - (i + 1)))).heap[k]? = wr.heap[k]? := fun k _ hk => Below.heap_setCell _ _ _ k hk
            have hr := (HM.out.rest.keep hg)
            refine ⟨congrArg (fun z => Ending.returned (.int .u64 z)) HS.out, some ⟨gb, off + (i + 1), none⟩, c - (i + 1), ⟨?_, hr.drop (i + 1) HIL.out⟩, Chg.setCell (F := (· = gm)) (Chg.refl _ _) (p := ⟨gm, 2, none⟩) (Or.inl rfl) _⟩
            rw [List.length_drop]
            exact blk_put HM.out.blk 2 _ rfl
        · have h9 : i ≠ 9 := by omega
          have h0 : ¬ 0 < i := by omega
          clear hi
          have h128_ : ¬ b < 128 := by omega
          have HS := Aside0.mk (wrap_sum acc i b HI.out.2.2.1 HI.out.2.1 (by omega) HBB.out.1 HBB.out.2)
          have HSC := Aside0.mk (wrap_scale i (by omega))
          have hmod : Int.tmod b 128 = b % 128 := Int.tmod_eq_emod_of_nonneg HBB.out.1
          have h128 : ¬ b < 128 := by omega
          have HN2 : Aside0 (numR (i + 1) (acc + b.toNat % 128 * 128 ^ i) (l.drop (i + 1)) = numR 0 0 l) := ⟨by rw [← HN.out]; simp [numR, h9, h0, h128_]⟩
          obtain ⟨kk, rfl⟩ : ∃ kk, gk = kk + 1 := ⟨gk - 1, by have := HI.out; omega⟩
          go_wp2
          go_roundg kk
          case measure => omega
          case rel => exact ⟨i + 1, acc + b.toNat % 128 * 128 ^ i, congrArg (Value.int .u64) HS.out, congrArg (Value.int .u64) HSC.out, by first | rfl | simp, ⟨by have := HI.out; omega, by omega, step_lt acc i b HI.out.2.2.1, HIL.out⟩, HN2, ⟨rfl⟩⟩
        · subst h1
          have HE2 : Aside0 ((n, l1, e1) = (0, ([] : List Int), (21 : Int))) := ⟨by rw [← HRES.out, ← HN.out]; simp [numR, failE, h0]⟩
          go_wp2_with fail
          refine (mfail1 gm gb _ c l 0 y0 y1 wr HM.out 21 (by decide)).mono ?_
          rintro e w1 ⟨rfl, h⟩
          have H := Aside0.mk h
          clear h
          go_wp2
          go_ret
          cases HE2.out
          exact ⟨rfl, H.out⟩
        · have HE2 : Aside0 ((n, l1, e1) = (acc + b.toNat % 128 * 128 ^ i, l.drop (i + 1), (0 : Int))) := ⟨by rw [← HRES.out, ← HN.out]; simp [numR, h9, h0, hb0, h1]⟩
          have HS := Aside0.mk (wrap_sum acc i b HI.out.2.2.1 HI.out.2.1 (by omega) HBB.out.1 HBB.out.2)
          have hmod : Int.tmod b 128 = b % 128 := Int.tmod_eq_emod_of_nonneg HBB.out.1
          by_cases hci : c = i + 1
          · subst hci
            go_wp2
            go_ret
            cases HE2.out
            have hg : ∀ k, k < wr.heap.size → k ≠ gm → (wr.setCell ⟨gm, 2, none⟩ (.slice (some ⟨gb, off, none⟩) (l.length - (i + 1)) 0)).heap[k]? = wr.heap[k]? := fun k _ hk => Below.heap_setCell _ _ _ k hk
            have hr := (HM.out.rest.keep hg)
            have hd0 : l.drop (i + 1) = [] := List.drop_eq_nil_of_le HM.out.rest.le
            have hl0 : l.length - (i + 1) = 0 := Nat.sub_eq_zero_of_le HM.out.rest.le
            refine ⟨congrArg (fun z => Ending.returned (.int .u64 z)) HS.out, some ⟨gb, off, none⟩, 0, ⟨?_, by rw [hd0]; exact hr.none0⟩, Chg.setCell (F := (· = gm)) (Chg.refl _ _) (p := ⟨gm, 2, none⟩) (Or.inl rfl) _⟩
            rw [hd0]
            refine (blk_put HM.out.blk 2 (.slice (some ⟨gb, off, none⟩) (l.length - (i + 1)) 0) rfl).trans ?_
            rw [hl0]
            rfl
          · go_wp2
            go_ret
            cases HE2.out
            have hg : ∀ k, k < wr.heap.size → k ≠ gm → (wr.setCell ⟨gm, 2, none⟩ (.slice (some ⟨gb, off + (i + 1), none⟩) (l.length - (i + 1)) (c - (i + 1)))).heap[k]? = wr.heap[k]? := fun k _ hk => Below.heap_setCell _ _ _ k hk
            have hr := (HM.out.rest.keep hg)
            refine ⟨congrArg (fun z => Ending.returned (.int .u64 z)) HS.out, some ⟨gb, off + (i + 1), none⟩, c - (i + 1), ⟨?_, hr.drop (i + 1) HIL.out⟩, Chg.setCell (F := (· = gm)) (Chg.refl _ _) (p := ⟨gm, 2, none⟩) (Or.inl rfl) _⟩
            rw [List.length_drop]
            exact blk_put HM.out.blk 2 _ rfl
        · have h128_ : ¬ b < 128 := by omega
          have hb0 : b ≠ 0 := by omega
          have HS := Aside0.mk (wrap_sum acc i b HI.out.2.2.1 HI.out.2.1 (by omega) HBB.out.1 HBB.out.2)
          have HSC := Aside0.mk (wrap_scale i (by omega))
          have hmod : Int.tmod b 128 = b % 128 := Int.tmod_eq_emod_of_nonneg HBB.out.1
          have h128 : ¬ b < 128 := by omega
          have HN2 : Aside0 (numR (i + 1) (acc + b.toNat % 128 * 128 ^ i) (l.drop (i + 1)) = numR 0 0 l) := ⟨by rw [← HN.out]; simp [numR, h9, h0, hb0, h128_]⟩
          obtain ⟨kk, rfl⟩ : ∃ kk, gk = kk + 1 := ⟨gk - 1, by have := HI.out; omega⟩
          go_wp2
          go_roundg kk
          case measure => omega
          case rel => exact ⟨i + 1, acc + b.toNat % 128 * 128 ^ i, congrArg (Value.int .u64) HS.out, congrArg (Value.int .u64) HSC.out, by first | rfl | simp, ⟨by have := HI.out; omega, by omega, step_lt acc i b HI.out.2.2.1, HIL.out⟩, HN2, ⟨rfl⟩⟩
 · have hl := hm.rest.flt he
   subst hl
   have hc1 : w.cell? ⟨gm, 3, none⟩ = some (.int .i64 e0) := (blk_cell hm.blk 3).trans rfl
   rw [show varR [] e0 = (0, [], e0) by simp [varR, he]]
   have hb2 : (e0 != 0) = true := by simpa using he
   have HM := Aside0.mk hm
   clear he hm
   go_enter Try.func58, Try.ntmps58
   go_wp2
   go_ret
   exact ⟨rfl, Mt1.refl HM.out⟩
end Go.Proofs.Ytjijmikpoenbcaa.Codec
/- The document's readers, method by method. Written by wip/gen/meant.py. -/
namespace Go.Proofs.Ytjijmikpoenbcaa.Codec
open Go.RowKit Go.Proofs.YtjijmikpoenbcaaW.PrintWords Go.Proofs.YtjijmikpoenbcaaW.PrintLast Go.Proofs.YtjijmikpoenbcaaW.PrintMore
set_option linter.unusedVariables false
set_option linter.unusedSimpArgs false
theorem wrap_fix (m : Nat) (b : Int) (hm : m < 72057594037927936) (h0 : 0 ≤ b) (h1 : b < 256) : IntKind.u64.wrap (IntKind.u64.wrap ((m : Int) * 256) + IntKind.u64.wrap b) = ((m * 256 + b.toNat : Nat) : Int) := by
 have e : IntKind.u64.wrap ((m : Int) * 256) = (m : Int) * 256 := wrap_u64_nonneg (by omega) (by omega)
 rw [e, wrap_u64_nonneg (n := b) h0 (by omega), wrap_u64_nonneg (by omega) (by omega)]
 omega
set_option maxHeartbeats 8000000 in
set_option maxRecDepth 100000 in
theorem mback (n : Nat) (hn : n < 18446744073709551616) (w : World) :
 Calls Try.prog 66 #[.int .u64 n] w fun e w' => e = .returned (.int .i64 (backI n)) ∧ w' = w := by
 have HB : Aside0 (backI n = if n % 2 = 0 then ((n / 2 : Nat) : Int) else -1 - ((n / 2 : Nat) : Int)) := ⟨rfl⟩
 by_cases h : n % 2 = 0
 · rw [HB.out, if_pos h]
   have h2 : (n : Int) % 2 = 0 := by omega
   have h3 : Int.tmod (n : Int) 2 = 0 := by rw [Int.tmod_eq_emod_of_nonneg (by omega)]; omega
   have h4 : Int.tdiv (n : Int) 2 = (n : Int) / 2 := by rw [Int.tdiv_eq_ediv_of_nonneg (by omega)]
   clear h
   go_enter Try.func66, Try.ntmps66
   go_wp2
   go_ret
   refine ⟨?_, rfl⟩
   first | rfl | (refine congrArg (fun z => Ending.returned (.int .i64 z)) ?_; (try unfold wrap64); omega)
 · rw [HB.out, if_neg h]
   have h2 : (n : Int) % 2 = 1 := by omega
   have h3 : Int.tmod (n : Int) 2 = 1 := by rw [Int.tmod_eq_emod_of_nonneg (by omega)]; omega
   have h4 : Int.tdiv (n : Int) 2 = (n : Int) / 2 := by rw [Int.tdiv_eq_ediv_of_nonneg (by omega)]
   clear h
   go_enter Try.func66, Try.ntmps66
   go_wp2
   go_ret
   refine ⟨?_, rfl⟩
   first | rfl | (refine congrArg (fun z => Ending.returned (.int .i64 z)) ?_; (try unfold wrap64); omega)

set_option maxHeartbeats 8000000 in
set_option maxRecDepth 100000 in
theorem mfixed0 (gm gb : Nat) (A : Option Addr) (c : Nat) (l : List Int) (e0 : Int) (y0 y1 : Value) (w : World) (hm : M0 w gm gb A c l e0 y0 y1) (wd : Int) (hby : IsBytes l) :
 Calls Try.prog 57 #[.pointer (some ⟨gm, 0, none⟩), .int .i64 wd] w fun e w' => e = .returned (.int .u64 (fixedR wd l e0).1) ∧ Mt0 gm gb (fixedR wd l e0).2.1 (fixedR wd l e0).2.2 y0 y1 w w' := by
 have HM := Aside0.mk hm
 have HBY := Aside0.mk hby
 clear hm hby
 by_cases hw : wd < 1 ∨ 8 < wd
 · have e : fixedR wd l e0 = (0, [], failE 1 e0) := by simp [fixedR, hw]
   rw [e]
   clear e
   rcases hw with hw | hw
   case' inr => have hw1 : ¬ wd < 1 := by omega
   all_goals
    go_enter Try.func57, Try.ntmps57
    go_wp2_with fail
    refine (mfail0 gm gb A c l e0 y0 y1 w HM.out 1 (by decide)).mono ?_
    rintro e w1 ⟨rfl, h⟩
    have H := Aside0.mk h
    clear h
    go_wp2
    go_ret
    exact ⟨rfl, H.out⟩
 · have e : fixedR wd l e0 = ((fixN (nextR wd.toNat l e0).1 : Int), (nextR wd.toNat l e0).2.1, (nextR wd.toNat l e0).2.2) := by simp [fixedR, hw]
   rw [e]
   clear e
   obtain ⟨K, hK⟩ := Int.eq_ofNat_of_zero_le (show 0 ≤ wd by omega)
   subst hK
   rw [Int.toNat_natCast]
   have hw1 : ¬ (K : Int) < 1 := by omega
   have hw2 : ¬ (8 : Int) < (K : Int) := by omega
   have HK : Aside0 (1 ≤ K ∧ K ≤ 8) := ⟨by omega⟩
   clear hw
   by_cases he : e0 = 0
   · subst he
     by_cases hn : l.length < K
     · have e : nextR K l 0 = ([], [], 20) := by simp [nextR, hn]
       rw [e]
       clear e
       have HT := Aside0.mk (mtake_short0 gm gb A c l y0 y1 w HM.out K (by omega))
       clear hn
       go_enter Try.func57, Try.ntmps57
       go_wp2_with fail
       refine HT.out.mono ?_
       rintro e w1 ⟨rfl, h⟩
       have H := Aside0.mk h
       clear h
       go_wp2
       go_ret
       exact ⟨rfl, H.out⟩
     · have e : nextR K l 0 = (l.take K, l.drop K, 0) := by simp [nextR, hn]
       rw [e]
       clear e
       rcases HM.out.rest.src with ⟨_, q, _⟩ | ⟨off, cs, t, rfl, _⟩
       · subst q; have := HK.out; simp at hn; omega
       · have HT := Aside0.mk (mtake0 gm gb off c l y0 y1 w HM.out K (by omega))
         have HBS : Aside0 (IsBytes (l.take K)) := ⟨HBY.out.take _⟩
         have HLEN : Aside0 ((l.take K).length = K) := ⟨by simp; omega⟩
         clear hn HM HBY
         generalize l.take K = bs at HT HBS HLEN ⊢
         generalize l.drop K = l1 at HT ⊢
         go_enter Try.func57, Try.ntmps57
         go_wp2_with fail
         refine HT.out.mono ?_
         rintro e w1 ⟨rfl, hC, h⟩
         have H := Aside0.mk h
         have HC := Aside0.mk hC
         clear h hC
         go_wp2
         go_loopg [7, 8] K (fun kq v7 v8 wr => ∃ (j : Nat), v7 = .int .u64 (fixN (bs.take j)) ∧ v8 = .int .i64 j ∧ Aside0 (j + kq = K ∧ wr = w1))
         case atStart => exact ⟨0, rfl, rfl, ⟨by omega, rfl⟩⟩
         case round =>
          obtain ⟨j, rfl, rfl, HJ⟩ := hrel
          have hww : wr = w1 := HJ.out.2
          subst hww
          cases gk with
          | zero =>
           have hj : j = K := by have := HJ.out.1; omega
           subst hj
           go_wp2
           go_ret
           have hf : fixN (bs.take j) = fixN bs := by rw [List.take_of_length_le (Nat.le_of_eq HLEN.out)]
           exact ⟨congrArg (fun z : Nat => Ending.returned (.int .u64 (z : Int))) hf, H.out⟩
          | succ k =>
           have hj : (j : Int) < K := by have := HJ.out.1; omega
           have hjb : j < bs.length := by have := HLEN.out; omega
           have h0 : wr.cell? ⟨gb, off + j, none⟩ = some (.int .u8 (rd bs j)) := by
            have h0 := C_read HC.out j (by omega)
            rwa [add_off] at h0
           have HS := Aside0.mk (wrap_fix (fixN (bs.take j)) (rd bs j) (by
            have := fixN_bound (bs.take j) (HBS.out.take j)
            have h2 : (bs.take j).length ≤ 7 := by rw [List.length_take]; have := HK.out; omega
            have h3 : 256 ^ (bs.take j).length ≤ 256 ^ 7 := Nat.pow_le_pow_right (by omega) h2
            omega) (HBS.out.nth j hjb).1 (HBS.out.nth j hjb).2)
           have HJB := Aside0.mk hjb
           have hj8 : (j : Int) ≤ 8 := by have := HK.out; omega
           have hcn := HLEN.out
           clear hjb hcn
           go_wp2
           go_roundg k
           case measure => omega
           case rel => exact ⟨j + 1, by refine (congrArg (Value.int .u64) HS.out).trans ?_; rw [List.take_succ_eq_append_getElem HJB.out, fixN_snoc]; have := HJB.out; simp [rd, List.getD, this], by first | rfl | simp, ⟨by have := HJ.out.1; omega, rfl⟩⟩
   · have hl := HM.out.rest.flt he
     subst hl
     have e : nextR K [] e0 = ([], [], e0) := by simp [nextR, he]
     rw [e]
     clear e
     have HT := Aside0.mk (mtake_fault0 gm gb A c [] e0 y0 y1 w HM.out K he)
     clear he
     go_enter Try.func57, Try.ntmps57
     go_wp2_with fail
     refine HT.out.mono ?_
     rintro e w1 ⟨rfl, rfl⟩
     go_wp2
     go_ret
     exact ⟨rfl, Mt0.refl HM.out⟩
set_option maxHeartbeats 8000000 in
set_option maxRecDepth 100000 in
theorem mint0 (gm gb : Nat) (A : Option Addr) (c : Nat) (l : List Int) (e0 : Int) (y0 y1 : Value) (w : World) (hm : M0 w gm gb A c l e0 y0 y1) (hby : IsBytes l) :
 Calls Try.prog 59 #[.pointer (some ⟨gm, 0, none⟩)] w fun e w' => e = .returned (.int .i64 (if (varR l e0).2.2 = 0 then backI (varR l e0).1 else 0)) ∧ Mt0 gm gb (varR l e0).2.1 (varR l e0).2.2 y0 y1 w w' := by
 have HV := Aside0.mk (mvar0 gm gb A c l e0 y0 y1 w hm hby)
 have HB := Aside0.mk (fun w => mback _ (varR_bound l hby e0) w)
 clear hm hby
 generalize varR l e0 = res at HV HB ⊢
 obtain ⟨n, t, f⟩ := res
 by_cases hf : f = 0
 · subst hf
   rw [if_pos rfl]
   go_enter Try.func59, Try.ntmps59
   go_wp2_with fail
   refine HV.out.mono ?_
   rintro e w1 ⟨rfl, A1, c1, hm1, hch⟩
   have hc1 : w1.cell? ⟨gm, 1, none⟩ = some (.int .i64 0) := (blk_cell hm1.blk 1).trans rfl
   have H : Aside0 (Mt0 gm gb t 0 y0 y1 w w1) := ⟨A1, c1, hm1, hch⟩
   clear hm1 hch
   go_wp2_with fail
   refine (HB.out w1).mono ?_
   rintro e w2 ⟨rfl, rfl⟩
   go_wp2
   go_ret
   exact ⟨rfl, H.out⟩
 · rw [if_neg hf]
   have hb2 : (f != 0) = true := by simpa using hf
   clear hf
   go_enter Try.func59, Try.ntmps59
   go_wp2_with fail
   refine HV.out.mono ?_
   rintro e w1 ⟨rfl, A1, c1, hm1, hch⟩
   have hc1 : w1.cell? ⟨gm, 1, none⟩ = some (.int .i64 f) := (blk_cell hm1.blk 1).trans rfl
   have H : Aside0 (Mt0 gm gb t f y0 y1 w w1) := ⟨A1, c1, hm1, hch⟩
   clear hm1 hch
   go_wp2
   go_ret
   exact ⟨rfl, H.out⟩
set_option maxHeartbeats 8000000 in
set_option maxRecDepth 100000 in
theorem mfixed1 (gm gb : Nat) (A : Option Addr) (c : Nat) (l : List Int) (e0 : Int) (y0 y1 : Value) (w : World) (hm : M1 w gm gb A c l e0 y0 y1) (wd : Int) (hby : IsBytes l) :
 Calls Try.prog 57 #[.pointer (some ⟨gm, 2, none⟩), .int .i64 wd] w fun e w' => e = .returned (.int .u64 (fixedR wd l e0).1) ∧ Mt1 gm gb (fixedR wd l e0).2.1 (fixedR wd l e0).2.2 y0 y1 w w' := by
 have HM := Aside0.mk hm
 have HBY := Aside0.mk hby
 clear hm hby
 by_cases hw : wd < 1 ∨ 8 < wd
 · have e : fixedR wd l e0 = (0, [], failE 1 e0) := by simp [fixedR, hw]
   rw [e]
   clear e
   rcases hw with hw | hw
   case' inr => have hw1 : ¬ wd < 1 := by omega
   all_goals
    go_enter Try.func57, Try.ntmps57
    go_wp2_with fail
    refine (mfail1 gm gb A c l e0 y0 y1 w HM.out 1 (by decide)).mono ?_
    rintro e w1 ⟨rfl, h⟩
    have H := Aside0.mk h
    clear h
    go_wp2
    go_ret
    exact ⟨rfl, H.out⟩
 · have e : fixedR wd l e0 = ((fixN (nextR wd.toNat l e0).1 : Int), (nextR wd.toNat l e0).2.1, (nextR wd.toNat l e0).2.2) := by simp [fixedR, hw]
   rw [e]
   clear e
   obtain ⟨K, hK⟩ := Int.eq_ofNat_of_zero_le (show 0 ≤ wd by omega)
   subst hK
   rw [Int.toNat_natCast]
   have hw1 : ¬ (K : Int) < 1 := by omega
   have hw2 : ¬ (8 : Int) < (K : Int) := by omega
   have HK : Aside0 (1 ≤ K ∧ K ≤ 8) := ⟨by omega⟩
   clear hw
   by_cases he : e0 = 0
   · subst he
     by_cases hn : l.length < K
     · have e : nextR K l 0 = ([], [], 20) := by simp [nextR, hn]
       rw [e]
       clear e
       have HT := Aside0.mk (mtake_short1 gm gb A c l y0 y1 w HM.out K (by omega))
       clear hn
       go_enter Try.func57, Try.ntmps57
       go_wp2_with fail
       refine HT.out.mono ?_
       rintro e w1 ⟨rfl, h⟩
       have H := Aside0.mk h
       clear h
       go_wp2
       go_ret
       exact ⟨rfl, H.out⟩
     · have e : nextR K l 0 = (l.take K, l.drop K, 0) := by simp [nextR, hn]
       rw [e]
       clear e
       rcases HM.out.rest.src with ⟨_, q, _⟩ | ⟨off, cs, t, rfl, _⟩
       · subst q; have := HK.out; simp at hn; omega
       · have HT := Aside0.mk (mtake1 gm gb off c l y0 y1 w HM.out K (by omega))
         have HBS : Aside0 (IsBytes (l.take K)) := ⟨HBY.out.take _⟩
         have HLEN : Aside0 ((l.take K).length = K) := ⟨by simp; omega⟩
         clear hn HM HBY
         generalize l.take K = bs at HT HBS HLEN ⊢
         generalize l.drop K = l1 at HT ⊢
         go_enter Try.func57, Try.ntmps57
         go_wp2_with fail
         refine HT.out.mono ?_
         rintro e w1 ⟨rfl, hC, h⟩
         have H := Aside0.mk h
         have HC := Aside0.mk hC
         clear h hC
         go_wp2
         go_loopg [7, 8] K (fun kq v7 v8 wr => ∃ (j : Nat), v7 = .int .u64 (fixN (bs.take j)) ∧ v8 = .int .i64 j ∧ Aside0 (j + kq = K ∧ wr = w1))
         case atStart => exact ⟨0, rfl, rfl, ⟨by omega, rfl⟩⟩
         case round =>
          obtain ⟨j, rfl, rfl, HJ⟩ := hrel
          have hww : wr = w1 := HJ.out.2
          subst hww
          cases gk with
          | zero =>
           have hj : j = K := by have := HJ.out.1; omega
           subst hj
           go_wp2
           go_ret
           have hf : fixN (bs.take j) = fixN bs := by rw [List.take_of_length_le (Nat.le_of_eq HLEN.out)]
           exact ⟨congrArg (fun z : Nat => Ending.returned (.int .u64 (z : Int))) hf, H.out⟩
          | succ k =>
           have hj : (j : Int) < K := by have := HJ.out.1; omega
           have hjb : j < bs.length := by have := HLEN.out; omega
           have h0 : wr.cell? ⟨gb, off + j, none⟩ = some (.int .u8 (rd bs j)) := by
            have h0 := C_read HC.out j (by omega)
            rwa [add_off] at h0
           have HS := Aside0.mk (wrap_fix (fixN (bs.take j)) (rd bs j) (by
            have := fixN_bound (bs.take j) (HBS.out.take j)
            have h2 : (bs.take j).length ≤ 7 := by rw [List.length_take]; have := HK.out; omega
            have h3 : 256 ^ (bs.take j).length ≤ 256 ^ 7 := Nat.pow_le_pow_right (by omega) h2
            omega) (HBS.out.nth j hjb).1 (HBS.out.nth j hjb).2)
           have HJB := Aside0.mk hjb
           have hj8 : (j : Int) ≤ 8 := by have := HK.out; omega
           have hcn := HLEN.out
           clear hjb hcn
           go_wp2
           go_roundg k
           case measure => omega
           case rel => exact ⟨j + 1, by refine (congrArg (Value.int .u64) HS.out).trans ?_; rw [List.take_succ_eq_append_getElem HJB.out, fixN_snoc]; have := HJB.out; simp [rd, List.getD, this], by first | rfl | simp, ⟨by have := HJ.out.1; omega, rfl⟩⟩
   · have hl := HM.out.rest.flt he
     subst hl
     have e : nextR K [] e0 = ([], [], e0) := by simp [nextR, he]
     rw [e]
     clear e
     have HT := Aside0.mk (mtake_fault1 gm gb A c [] e0 y0 y1 w HM.out K he)
     clear he
     go_enter Try.func57, Try.ntmps57
     go_wp2_with fail
     refine HT.out.mono ?_
     rintro e w1 ⟨rfl, rfl⟩
     go_wp2
     go_ret
     exact ⟨rfl, Mt1.refl HM.out⟩
set_option maxHeartbeats 8000000 in
set_option maxRecDepth 100000 in
theorem mint1 (gm gb : Nat) (A : Option Addr) (c : Nat) (l : List Int) (e0 : Int) (y0 y1 : Value) (w : World) (hm : M1 w gm gb A c l e0 y0 y1) (hby : IsBytes l) :
 Calls Try.prog 59 #[.pointer (some ⟨gm, 2, none⟩)] w fun e w' => e = .returned (.int .i64 (if (varR l e0).2.2 = 0 then backI (varR l e0).1 else 0)) ∧ Mt1 gm gb (varR l e0).2.1 (varR l e0).2.2 y0 y1 w w' := by
 have HV := Aside0.mk (mvar1 gm gb A c l e0 y0 y1 w hm hby)
 have HB := Aside0.mk (fun w => mback _ (varR_bound l hby e0) w)
 clear hm hby
 generalize varR l e0 = res at HV HB ⊢
 obtain ⟨n, t, f⟩ := res
 by_cases hf : f = 0
 · subst hf
   rw [if_pos rfl]
   go_enter Try.func59, Try.ntmps59
   go_wp2_with fail
   refine HV.out.mono ?_
   rintro e w1 ⟨rfl, A1, c1, hm1, hch⟩
   have hc1 : w1.cell? ⟨gm, 3, none⟩ = some (.int .i64 0) := (blk_cell hm1.blk 3).trans rfl
   have H : Aside0 (Mt1 gm gb t 0 y0 y1 w w1) := ⟨A1, c1, hm1, hch⟩
   clear hm1 hch
   go_wp2_with fail
   refine (HB.out w1).mono ?_
   rintro e w2 ⟨rfl, rfl⟩
   go_wp2
   go_ret
   exact ⟨rfl, H.out⟩
 · rw [if_neg hf]
   have hb2 : (f != 0) = true := by simpa using hf
   clear hf
   go_enter Try.func59, Try.ntmps59
   go_wp2_with fail
   refine HV.out.mono ?_
   rintro e w1 ⟨rfl, A1, c1, hm1, hch⟩
   have hc1 : w1.cell? ⟨gm, 3, none⟩ = some (.int .i64 f) := (blk_cell hm1.blk 3).trans rfl
   have H : Aside0 (Mt1 gm gb t f y0 y1 w w1) := ⟨A1, c1, hm1, hch⟩
   clear hm1 hch
   go_wp2
   go_ret
   exact ⟨rfl, H.out⟩
end Go.Proofs.Ytjijmikpoenbcaa.Codec
/- The document's readers, method by method. Written by wip/gen/meant.py. -/
namespace Go.Proofs.Ytjijmikpoenbcaa.Codec
open Go.RowKit Go.Proofs.YtjijmikpoenbcaaW.PrintWords Go.Proofs.YtjijmikpoenbcaaW.PrintLast Go.Proofs.YtjijmikpoenbcaaW.PrintMore
set_option linter.unusedVariables false
set_option linter.unusedSimpArgs false
theorem numR_bad (l : List Int) : ∀ i n, (numR i n l).2.1 ≠ 0 ∨ (numR i n l).2.2.2 ≠ 0 → (numR i n l).1 = 0 := by
 induction l with
 | nil => intro i n _; rfl
 | cons b t ih =>
  intro i n h
  unfold numR at h ⊢
  split at h
  · rename_i q
    rw [if_pos q]
  · rename_i q
    rw [if_neg q]
    split at h
    · simp at h
    · rename_i q2
      rw [if_neg q2]
      exact ih _ _ h
theorem varR_bad (l : List Int) (e : Int) (h : (varR l e).2.2 ≠ 0) : (varR l e).1 = 0 := by
 by_cases he : e = 0
 · by_cases h2 : (numR 0 0 l).2.1 = 0
   · have hv : varR l e = ((numR 0 0 l).1, (numR 0 0 l).2.2.1, (numR 0 0 l).2.2.2) := by unfold varR; rw [if_pos he, if_pos h2]
     rw [hv] at h ⊢
     exact numR_bad l 0 0 (Or.inr h)
   · have hv : (varR l e).1 = (numR 0 0 l).1 := by unfold varR; rw [if_pos he, if_neg h2]
     rw [hv]
     exact numR_bad l 0 0 (Or.inl h2)
 · unfold varR
   rw [if_neg he]
def idA (bs : List Int) (j : Nat) : Array Value := (nums .u8 (bs.take j ++ List.replicate (8 - j) 0)).toArray
theorem idA_put (bs : List Int) (h : bs.length = 8) (j : Nat) (hj : j < 8) : (idA bs j).setIfInBounds j (.int .u8 (rd bs j)) = idA bs (j + 1) := by
 match bs, h with
 | [a, b, c, d, e, f, g, i], _ =>
  match j, hj with
  | 0, _ => rfl
  | 1, _ => rfl
  | 2, _ => rfl
  | 3, _ => rfl
  | 4, _ => rfl
  | 5, _ => rfl
  | 6, _ => rfl
  | 7, _ => rfl
theorem idA_all (bs : List Int) (h : bs.length = 8) : idA bs 8 = #[Value.int .u8 (rd bs 0), Value.int .u8 (rd bs 1), Value.int .u8 (rd bs 2), Value.int .u8 (rd bs 3), Value.int .u8 (rd bs 4), Value.int .u8 (rd bs 5), Value.int .u8 (rd bs 6), Value.int .u8 (rd bs 7)] := by
 match bs, h with
 | [a, b, c, d, e, f, g, i], _ => rfl
theorem idA_size (bs : List Int) (h : bs.length = 8) (j : Nat) (hj : j ≤ 8) : (idA bs j).size = 8 := by
 simp [idA, nums, h]
 omega
theorem pair_sum (a b : Int) (ha0 : 0 ≤ a) (ha : a < 256) (hb0 : 0 ≤ b) (hb : b < 256) : IntKind.i16.wrap (IntKind.u16.wrap (IntKind.u16.wrap (IntKind.u16.wrap a * 256) + IntKind.u16.wrap b)) = pairI a b := by
 rw [← pair_bits a b ha0 ha hb0 hb]
 obtain ⟨m, rfl⟩ := Int.eq_ofNat_of_zero_le ha0
 obtain ⟨k, rfl⟩ := Int.eq_ofNat_of_zero_le hb0
 have e1 : IntKind.u16.wrap ((m : Int)) = (m : Int) := by rw [IntKind.wrap_u16]; omega
 have e2 : IntKind.u16.wrap ((k : Int)) = (k : Int) := by rw [IntKind.wrap_u16]; omega
 have e3 : IntKind.u16.wrap ((m : Int) * 256) = ((m * 256 : Nat) : Int) := by rw [IntKind.wrap_u16]; omega
 have e4 : m * 256 ||| k = m * 256 + k := by
  have h := Nat.two_pow_add_eq_or_of_lt (i := 8) (b := k) (by omega) m
  rw [Nat.mul_comm m 256]
  exact h.symm
 have e5 : IntKind.u16.wrap (((m * 256 : Nat) : Int) + (k : Int)) = ((m * 256 + k : Nat) : Int) := by rw [IntKind.wrap_u16]; omega
 rw [e1, e2, e3, e5, u16_or_nat _ _ (by omega) (by omega), e4]
set_option maxHeartbeats 8000000 in
set_option maxRecDepth 100000 in
theorem mid0 (gm gb : Nat) (A : Option Addr) (c : Nat) (l : List Int) (e0 : Int) (y0 y1 : Value) (w : World) (hm : M0 w gm gb A c l e0 y0 y1) (hgb : gb < w.heap.size) :
 Calls Try.prog 60 #[.pointer (some ⟨gm, 0, none⟩)] w fun e w' => e = .returned (.agg (nums .u8 (idR l e0).1).toArray) ∧ Mt0 gm gb (idR l e0).2.1 (idR l e0).2.2 y0 y1 w w' := by
 have HCH : Aside0 (Chg (· = gm) w ((w.alloc (.cells #[Value.int .u8 0, Value.int .u8 0, Value.int .u8 0, Value.int .u8 0, Value.int .u8 0, Value.int .u8 0, Value.int .u8 0, Value.int .u8 0] 41)).alloc (.cells #[Value.int .u8 0, Value.int .u8 0, Value.int .u8 0, Value.int .u8 0, Value.int .u8 0, Value.int .u8 0, Value.int .u8 0, Value.int .u8 0] 41))) := ⟨Chg.alloc (Chg.alloc (Chg.refl _ _) _) _⟩
 have HSZ : Aside0 (gm < w.heap.size ∧ ((w.alloc (.cells #[Value.int .u8 0, Value.int .u8 0, Value.int .u8 0, Value.int .u8 0, Value.int .u8 0, Value.int .u8 0, Value.int .u8 0, Value.int .u8 0] 41)).alloc (.cells #[Value.int .u8 0, Value.int .u8 0, Value.int .u8 0, Value.int .u8 0, Value.int .u8 0, Value.int .u8 0, Value.int .u8 0, Value.int .u8 0] 41)).heap.size = w.heap.size + 2) := ⟨blk_lt hm.blk, by rw [World.size_alloc, World.size_alloc]⟩
 have HGB := Aside0.mk hgb
 have HKR : Aside0 (((w.alloc (.cells #[Value.int .u8 0, Value.int .u8 0, Value.int .u8 0, Value.int .u8 0, Value.int .u8 0, Value.int .u8 0, Value.int .u8 0, Value.int .u8 0] 41)).alloc (.cells #[Value.int .u8 0, Value.int .u8 0, Value.int .u8 0, Value.int .u8 0, Value.int .u8 0, Value.int .u8 0, Value.int .u8 0, Value.int .u8 0] 41)).heap[w.heap.size]? = some (.cells #[Value.int .u8 0, Value.int .u8 0, Value.int .u8 0, Value.int .u8 0, Value.int .u8 0, Value.int .u8 0, Value.int .u8 0, Value.int .u8 0] 41 (0, 0))) := ⟨((Chg.alloc (F := fun _ => False) (Chg.refl _ (w.alloc (.cells #[Value.int .u8 0, Value.int .u8 0, Value.int .u8 0, Value.int .u8 0, Value.int .u8 0, Value.int .u8 0, Value.int .u8 0, Value.int .u8 0] 41))) (.cells #[Value.int .u8 0, Value.int .u8 0, Value.int .u8 0, Value.int .u8 0, Value.int .u8 0, Value.int .u8 0, Value.int .u8 0, Value.int .u8 0] 41)).block _ (by rw [World.size_alloc]; omega) (fun q => q)).trans (blk_new w (.cells #[Value.int .u8 0, Value.int .u8 0, Value.int .u8 0, Value.int .u8 0, Value.int .u8 0, Value.int .u8 0, Value.int .u8 0, Value.int .u8 0] 41))⟩
 have HKI : Aside0 (((w.alloc (.cells #[Value.int .u8 0, Value.int .u8 0, Value.int .u8 0, Value.int .u8 0, Value.int .u8 0, Value.int .u8 0, Value.int .u8 0, Value.int .u8 0] 41)).alloc (.cells #[Value.int .u8 0, Value.int .u8 0, Value.int .u8 0, Value.int .u8 0, Value.int .u8 0, Value.int .u8 0, Value.int .u8 0, Value.int .u8 0] 41)).heap[w.heap.size + 1]? = some (.cells #[Value.int .u8 0, Value.int .u8 0, Value.int .u8 0, Value.int .u8 0, Value.int .u8 0, Value.int .u8 0, Value.int .u8 0, Value.int .u8 0] 41 (0, 0))) := ⟨by have := blk_new (w.alloc (.cells #[Value.int .u8 0, Value.int .u8 0, Value.int .u8 0, Value.int .u8 0, Value.int .u8 0, Value.int .u8 0, Value.int .u8 0, Value.int .u8 0] 41)) (.cells #[Value.int .u8 0, Value.int .u8 0, Value.int .u8 0, Value.int .u8 0, Value.int .u8 0, Value.int .u8 0, Value.int .u8 0, Value.int .u8 0] 41); rwa [World.size_alloc] at this⟩
 have HK : Aside0 (M0 ((w.alloc (.cells #[Value.int .u8 0, Value.int .u8 0, Value.int .u8 0, Value.int .u8 0, Value.int .u8 0, Value.int .u8 0, Value.int .u8 0, Value.int .u8 0] 41)).alloc (.cells #[Value.int .u8 0, Value.int .u8 0, Value.int .u8 0, Value.int .u8 0, Value.int .u8 0, Value.int .u8 0, Value.int .u8 0, Value.int .u8 0] 41)) gm gb A c l e0 y0 y1) := ⟨hm.keep (Chg.alloc (F := fun _ => False) (Chg.alloc (Chg.refl _ _) _) _) (fun q => q) (fun q => q)⟩
 have HFL := Aside0.mk hm.rest.flt
 clear hm hgb
 by_cases he : e0 = 0
 · subst he
   by_cases hl : l.length < 8
   · have e : idR l 0 = (List.replicate 8 0, [], 20) := by simp [idR, hl]
     rw [e]
     clear e
     have HT := Aside0.mk (mtake_short0 gm gb A c l y0 y1 _ HK.out 8 (by omega))
     clear hl
     go_enter Try.func60, Try.ntmps60
     go_wp2_with fail
     refine HT.out.mono ?_
     rintro e w1 ⟨rfl, h⟩
     have H := Aside0.mk h
     have hkr : w1.heap[w.heap.size]? = some (.cells #[Value.int .u8 0, Value.int .u8 0, Value.int .u8 0, Value.int .u8 0, Value.int .u8 0, Value.int .u8 0, Value.int .u8 0, Value.int .u8 0] 41 (0, 0)) := (h.choose_spec.choose_spec.2.block _ (by rw [HSZ.out.2]; omega) (by have := HSZ.out.1; omega)).trans HKR.out
     have hki : w1.heap[w.heap.size + 1]? = some (.cells #[Value.int .u8 0, Value.int .u8 0, Value.int .u8 0, Value.int .u8 0, Value.int .u8 0, Value.int .u8 0, Value.int .u8 0, Value.int .u8 0] 41 (0, 0)) := (h.choose_spec.choose_spec.2.block _ (by rw [HSZ.out.2]; omega) (by have := HSZ.out.1; omega)).trans HKI.out
     have rc0 : w1.cell? ⟨w.heap.size, 0, none⟩ = some (.int .u8 0) := (blk_cell hkr 0).trans rfl
     have rf0 := blk_frozen hkr 0
     have rc1 : w1.cell? ⟨w.heap.size, 1, none⟩ = some (.int .u8 0) := (blk_cell hkr 1).trans rfl
     have rf1 := blk_frozen hkr 1
     have rc2 : w1.cell? ⟨w.heap.size, 2, none⟩ = some (.int .u8 0) := (blk_cell hkr 2).trans rfl
     have rf2 := blk_frozen hkr 2
     have rc3 : w1.cell? ⟨w.heap.size, 3, none⟩ = some (.int .u8 0) := (blk_cell hkr 3).trans rfl
     have rf3 := blk_frozen hkr 3
     have rc4 : w1.cell? ⟨w.heap.size, 4, none⟩ = some (.int .u8 0) := (blk_cell hkr 4).trans rfl
     have rf4 := blk_frozen hkr 4
     have rc5 : w1.cell? ⟨w.heap.size, 5, none⟩ = some (.int .u8 0) := (blk_cell hkr 5).trans rfl
     have rf5 := blk_frozen hkr 5
     have rc6 : w1.cell? ⟨w.heap.size, 6, none⟩ = some (.int .u8 0) := (blk_cell hkr 6).trans rfl
     have rf6 := blk_frozen hkr 6
     have rc7 : w1.cell? ⟨w.heap.size, 7, none⟩ = some (.int .u8 0) := (blk_cell hkr 7).trans rfl
     have rf7 := blk_frozen hkr 7
     have ic0 : w1.cell? ⟨w.heap.size + 1, 0, none⟩ = some (.int .u8 0) := (blk_cell hki 0).trans rfl
     have if0 := blk_frozen hki 0
     have ic1 : w1.cell? ⟨w.heap.size + 1, 1, none⟩ = some (.int .u8 0) := (blk_cell hki 1).trans rfl
     have if1 := blk_frozen hki 1
     have ic2 : w1.cell? ⟨w.heap.size + 1, 2, none⟩ = some (.int .u8 0) := (blk_cell hki 2).trans rfl
     have if2 := blk_frozen hki 2
     have ic3 : w1.cell? ⟨w.heap.size + 1, 3, none⟩ = some (.int .u8 0) := (blk_cell hki 3).trans rfl
     have if3 := blk_frozen hki 3
     have ic4 : w1.cell? ⟨w.heap.size + 1, 4, none⟩ = some (.int .u8 0) := (blk_cell hki 4).trans rfl
     have if4 := blk_frozen hki 4
     have ic5 : w1.cell? ⟨w.heap.size + 1, 5, none⟩ = some (.int .u8 0) := (blk_cell hki 5).trans rfl
     have if5 := blk_frozen hki 5
     have ic6 : w1.cell? ⟨w.heap.size + 1, 6, none⟩ = some (.int .u8 0) := (blk_cell hki 6).trans rfl
     have if6 := blk_frozen hki 6
     have ic7 : w1.cell? ⟨w.heap.size + 1, 7, none⟩ = some (.int .u8 0) := (blk_cell hki 7).trans rfl
     have if7 := blk_frozen hki 7
     have HKR1 := Aside0.mk hkr
     clear h hkr hki
     go_wp2
     have HS := set8 HKR1.out (.int .u8 0) (.int .u8 0) (.int .u8 0) (.int .u8 0) (.int .u8 0) (.int .u8 0) (.int .u8 0) (.int .u8 0)
     refine bodyPost_ret (results_cell_row rfl _ _ w.heap.size 41 _ (0, 0) _ rfl HS.1 Try.underlying41 rfl (by kernel_rfl)) rfl ?_
     exact ⟨rfl, Mt0.cells HSZ.out.1 HGB.out HCH.out H.out ((HS.2.mono (fun i q => by have q' : i = w.heap.size := q; omega)))⟩
   · have e : idR l 0 = (l.take 8, l.drop 8, 0) := by simp [idR, hl]
     rw [e]
     clear e
     rcases HK.out.rest.src with ⟨_, q, _⟩ | ⟨off, cs, t, rfl, hne, hcs⟩
     · subst q; simp at hl
     · have HT := Aside0.mk (mtake0 gm gb off c l y0 y1 _ HK.out 8 (by omega))
       have HLEN : Aside0 ((l.take 8).length = 8) := ⟨by simp; omega⟩
       have HCS : Aside0 (gb ≠ gm ∧ ((w.alloc (.cells #[Value.int .u8 0, Value.int .u8 0, Value.int .u8 0, Value.int .u8 0, Value.int .u8 0, Value.int .u8 0, Value.int .u8 0, Value.int .u8 0] 41)).alloc (.cells #[Value.int .u8 0, Value.int .u8 0, Value.int .u8 0, Value.int .u8 0, Value.int .u8 0, Value.int .u8 0, Value.int .u8 0, Value.int .u8 0] 41)).heap[gb]? = some (.cells cs t (0, 0))) := ⟨hne, hcs⟩
       clear hl hne hcs
       generalize l.take 8 = bs at HT HLEN ⊢
       generalize l.drop 8 = l1 at HT ⊢
       go_enter Try.func60, Try.ntmps60
       go_wp2_with fail
       refine HT.out.mono ?_
       rintro e w1 ⟨rfl, hC, h⟩
       have H := Aside0.mk h
       have hkr : w1.heap[w.heap.size]? = some (.cells #[Value.int .u8 0, Value.int .u8 0, Value.int .u8 0, Value.int .u8 0, Value.int .u8 0, Value.int .u8 0, Value.int .u8 0, Value.int .u8 0] 41 (0, 0)) := (h.choose_spec.choose_spec.2.block _ (by rw [HSZ.out.2]; omega) (by have := HSZ.out.1; omega)).trans HKR.out
       have hki : w1.heap[w.heap.size + 1]? = some (.cells #[Value.int .u8 0, Value.int .u8 0, Value.int .u8 0, Value.int .u8 0, Value.int .u8 0, Value.int .u8 0, Value.int .u8 0, Value.int .u8 0] 41 (0, 0)) := (h.choose_spec.choose_spec.2.block _ (by rw [HSZ.out.2]; omega) (by have := HSZ.out.1; omega)).trans HKI.out
       have HC := Aside0.mk hC
       have hgbw : w1.heap[gb]? = some (.cells cs t (0, 0)) := (h.choose_spec.choose_spec.2.block _ (blk_lt HCS.out.2) HCS.out.1).trans HCS.out.2
       have HGBW := Aside0.mk hgbw
       have HKR1 := Aside0.mk hkr
       have HKI1 := Aside0.mk hki
       have hsz := h.choose_spec.choose_spec.2.size
       rw [HSZ.out.2] at hsz
       have HSZ1 := Aside0.mk hsz
       clear h hC hkr hki hgbw hsz
       go_wp2
       go_loopg [6] 8 (fun kq v6 wr => ∃ (j : Nat), v6 = .int .i64 j ∧ Aside0 (j + kq = 8) ∧ Aside0 (wr.heap[w.heap.size + 1]? = some (.cells (idA bs j) 41 (0, 0))) ∧ Aside0 (Chg (· = w.heap.size + 1) w1 wr))
       case atStart => exact ⟨0, rfl, ⟨by omega⟩, ⟨HKI1.out⟩, ⟨Chg.refl _ _⟩⟩
       case round =>
        obtain ⟨j, rfl, HJ, HA, HX⟩ := hrel
        have HKR2 : Aside0 (wr.heap[w.heap.size]? = some (.cells #[Value.int .u8 0, Value.int .u8 0, Value.int .u8 0, Value.int .u8 0, Value.int .u8 0, Value.int .u8 0, Value.int .u8 0, Value.int .u8 0] 41 (0, 0))) := ⟨(HX.out.block _ (by have := HSZ1.out; omega) (by omega)).trans HKR1.out⟩
        cases gk with
        | zero =>
         have hj : j = 8 := by have := HJ.out; omega
         subst hj
         rw [idA_all bs HLEN.out] at HA
         have rc0 : wr.cell? ⟨w.heap.size, 0, none⟩ = some (.int .u8 0) := (blk_cell HKR2.out 0).trans rfl
         have rf0 := blk_frozen HKR2.out 0
         have rc1 : wr.cell? ⟨w.heap.size, 1, none⟩ = some (.int .u8 0) := (blk_cell HKR2.out 1).trans rfl
         have rf1 := blk_frozen HKR2.out 1
         have rc2 : wr.cell? ⟨w.heap.size, 2, none⟩ = some (.int .u8 0) := (blk_cell HKR2.out 2).trans rfl
         have rf2 := blk_frozen HKR2.out 2
         have rc3 : wr.cell? ⟨w.heap.size, 3, none⟩ = some (.int .u8 0) := (blk_cell HKR2.out 3).trans rfl
         have rf3 := blk_frozen HKR2.out 3
         have rc4 : wr.cell? ⟨w.heap.size, 4, none⟩ = some (.int .u8 0) := (blk_cell HKR2.out 4).trans rfl
         have rf4 := blk_frozen HKR2.out 4
         have rc5 : wr.cell? ⟨w.heap.size, 5, none⟩ = some (.int .u8 0) := (blk_cell HKR2.out 5).trans rfl
         have rf5 := blk_frozen HKR2.out 5
         have rc6 : wr.cell? ⟨w.heap.size, 6, none⟩ = some (.int .u8 0) := (blk_cell HKR2.out 6).trans rfl
         have rf6 := blk_frozen HKR2.out 6
         have rc7 : wr.cell? ⟨w.heap.size, 7, none⟩ = some (.int .u8 0) := (blk_cell HKR2.out 7).trans rfl
         have rf7 := blk_frozen HKR2.out 7
         have ic0 : wr.cell? ⟨w.heap.size + 1, 0, none⟩ = some (.int .u8 (rd bs 0)) := (blk_cell HA.out 0).trans rfl
         have if0 := blk_frozen HA.out 0
         have ic1 : wr.cell? ⟨w.heap.size + 1, 1, none⟩ = some (.int .u8 (rd bs 1)) := (blk_cell HA.out 1).trans rfl
         have if1 := blk_frozen HA.out 1
         have ic2 : wr.cell? ⟨w.heap.size + 1, 2, none⟩ = some (.int .u8 (rd bs 2)) := (blk_cell HA.out 2).trans rfl
         have if2 := blk_frozen HA.out 2
         have ic3 : wr.cell? ⟨w.heap.size + 1, 3, none⟩ = some (.int .u8 (rd bs 3)) := (blk_cell HA.out 3).trans rfl
         have if3 := blk_frozen HA.out 3
         have ic4 : wr.cell? ⟨w.heap.size + 1, 4, none⟩ = some (.int .u8 (rd bs 4)) := (blk_cell HA.out 4).trans rfl
         have if4 := blk_frozen HA.out 4
         have ic5 : wr.cell? ⟨w.heap.size + 1, 5, none⟩ = some (.int .u8 (rd bs 5)) := (blk_cell HA.out 5).trans rfl
         have if5 := blk_frozen HA.out 5
         have ic6 : wr.cell? ⟨w.heap.size + 1, 6, none⟩ = some (.int .u8 (rd bs 6)) := (blk_cell HA.out 6).trans rfl
         have if6 := blk_frozen HA.out 6
         have ic7 : wr.cell? ⟨w.heap.size + 1, 7, none⟩ = some (.int .u8 (rd bs 7)) := (blk_cell HA.out 7).trans rfl
         have if7 := blk_frozen HA.out 7
         have HX2 : Aside0 (Chg (fun k => w.heap.size ≤ k) w1 wr) := ⟨HX.out.mono (fun i q => by have q' : i = w.heap.size + 1 := q; omega)⟩
         clear HX
         go_wp2
         rw [show (nums .u8 bs).toArray = idA bs 8 by unfold idA; rw [List.take_of_length_le (Nat.le_of_eq HLEN.out)]; simp, idA_all bs HLEN.out]
         have HS := set8 HKR2.out (.int .u8 (rd bs 0)) (.int .u8 (rd bs 1)) (.int .u8 (rd bs 2)) (.int .u8 (rd bs 3)) (.int .u8 (rd bs 4)) (.int .u8 (rd bs 5)) (.int .u8 (rd bs 6)) (.int .u8 (rd bs 7))
         refine bodyPost_ret (results_cell_row rfl _ _ w.heap.size 41 _ (0, 0) _ rfl HS.1 Try.underlying41 rfl (by kernel_rfl)) rfl ?_
         exact ⟨rfl, Mt0.cells HSZ.out.1 HGB.out HCH.out H.out (HX2.out.trans (HS.2.mono (fun i q => by have q' : i = w.heap.size := q; omega)))⟩
        | succ k =>
         have hj : (j : Int) < 8 := by have := HJ.out; omega
         have hC2 : Kd.C (Kd.int .u8) wr (some ⟨gb, off, none⟩) 8 bs := C_keep HC.out HGBW.out (HX.out.block _ (blk_lt HGBW.out) (by have := HGB.out; omega))
         have h0 : wr.cell? ⟨gb, off + j, none⟩ = some (.int .u8 (rd bs j)) := by
          have h0 := C_read hC2 j (by omega)
          rwa [add_off] at h0
         have hj9 : j < (idA bs j).size := by rw [idA_size bs HLEN.out j (by omega)]; omega
         obtain ⟨v0, h1⟩ : ∃ v0, wr.cell? ⟨w.heap.size + 1, j, none⟩ = some v0 := ⟨_, (blk_cell HA.out j).trans (Array.getElem?_eq_getElem hj9)⟩
         have h2 := blk_frozen HA.out j
         clear hC2 hj9
         go_wp2
         go_roundg k
         case measure => omega
         case rel => exact ⟨j + 1, by first | rfl | simp, ⟨by have := HJ.out; omega⟩, ⟨blk_put HA.out j _ (idA_put bs HLEN.out j (by omega))⟩, ⟨Chg.setCell HX.out (p := ⟨w.heap.size + 1, j, none⟩) (Or.inl rfl) _⟩⟩
 · have hl := HFL.out he
   subst hl
   have e : idR [] e0 = (List.replicate 8 0, [], e0) := by simp [idR, he]
   rw [e]
   have HT := Aside0.mk (mtake_fault0 gm gb A c [] e0 y0 y1 _ HK.out 8 he)
   clear e he
   go_enter Try.func60, Try.ntmps60
   go_wp2_with fail
   refine HT.out.mono ?_
   rintro e w1 ⟨rfl, hw⟩
   have h : Mt0 gm gb [] e0 y0 y1 ((w.alloc (.cells #[Value.int .u8 0, Value.int .u8 0, Value.int .u8 0, Value.int .u8 0, Value.int .u8 0, Value.int .u8 0, Value.int .u8 0, Value.int .u8 0] 41)).alloc (.cells #[Value.int .u8 0, Value.int .u8 0, Value.int .u8 0, Value.int .u8 0, Value.int .u8 0, Value.int .u8 0, Value.int .u8 0, Value.int .u8 0] 41)) w1 := by rw [hw]; exact Mt0.refl HK.out
   clear hw
   have H := Aside0.mk h
   have hkr : w1.heap[w.heap.size]? = some (.cells #[Value.int .u8 0, Value.int .u8 0, Value.int .u8 0, Value.int .u8 0, Value.int .u8 0, Value.int .u8 0, Value.int .u8 0, Value.int .u8 0] 41 (0, 0)) := (h.choose_spec.choose_spec.2.block _ (by rw [HSZ.out.2]; omega) (by have := HSZ.out.1; omega)).trans HKR.out
   have hki : w1.heap[w.heap.size + 1]? = some (.cells #[Value.int .u8 0, Value.int .u8 0, Value.int .u8 0, Value.int .u8 0, Value.int .u8 0, Value.int .u8 0, Value.int .u8 0, Value.int .u8 0] 41 (0, 0)) := (h.choose_spec.choose_spec.2.block _ (by rw [HSZ.out.2]; omega) (by have := HSZ.out.1; omega)).trans HKI.out
   have rc0 : w1.cell? ⟨w.heap.size, 0, none⟩ = some (.int .u8 0) := (blk_cell hkr 0).trans rfl
   have rf0 := blk_frozen hkr 0
   have rc1 : w1.cell? ⟨w.heap.size, 1, none⟩ = some (.int .u8 0) := (blk_cell hkr 1).trans rfl
   have rf1 := blk_frozen hkr 1
   have rc2 : w1.cell? ⟨w.heap.size, 2, none⟩ = some (.int .u8 0) := (blk_cell hkr 2).trans rfl
   have rf2 := blk_frozen hkr 2
   have rc3 : w1.cell? ⟨w.heap.size, 3, none⟩ = some (.int .u8 0) := (blk_cell hkr 3).trans rfl
   have rf3 := blk_frozen hkr 3
   have rc4 : w1.cell? ⟨w.heap.size, 4, none⟩ = some (.int .u8 0) := (blk_cell hkr 4).trans rfl
   have rf4 := blk_frozen hkr 4
   have rc5 : w1.cell? ⟨w.heap.size, 5, none⟩ = some (.int .u8 0) := (blk_cell hkr 5).trans rfl
   have rf5 := blk_frozen hkr 5
   have rc6 : w1.cell? ⟨w.heap.size, 6, none⟩ = some (.int .u8 0) := (blk_cell hkr 6).trans rfl
   have rf6 := blk_frozen hkr 6
   have rc7 : w1.cell? ⟨w.heap.size, 7, none⟩ = some (.int .u8 0) := (blk_cell hkr 7).trans rfl
   have rf7 := blk_frozen hkr 7
   have ic0 : w1.cell? ⟨w.heap.size + 1, 0, none⟩ = some (.int .u8 0) := (blk_cell hki 0).trans rfl
   have if0 := blk_frozen hki 0
   have ic1 : w1.cell? ⟨w.heap.size + 1, 1, none⟩ = some (.int .u8 0) := (blk_cell hki 1).trans rfl
   have if1 := blk_frozen hki 1
   have ic2 : w1.cell? ⟨w.heap.size + 1, 2, none⟩ = some (.int .u8 0) := (blk_cell hki 2).trans rfl
   have if2 := blk_frozen hki 2
   have ic3 : w1.cell? ⟨w.heap.size + 1, 3, none⟩ = some (.int .u8 0) := (blk_cell hki 3).trans rfl
   have if3 := blk_frozen hki 3
   have ic4 : w1.cell? ⟨w.heap.size + 1, 4, none⟩ = some (.int .u8 0) := (blk_cell hki 4).trans rfl
   have if4 := blk_frozen hki 4
   have ic5 : w1.cell? ⟨w.heap.size + 1, 5, none⟩ = some (.int .u8 0) := (blk_cell hki 5).trans rfl
   have if5 := blk_frozen hki 5
   have ic6 : w1.cell? ⟨w.heap.size + 1, 6, none⟩ = some (.int .u8 0) := (blk_cell hki 6).trans rfl
   have if6 := blk_frozen hki 6
   have ic7 : w1.cell? ⟨w.heap.size + 1, 7, none⟩ = some (.int .u8 0) := (blk_cell hki 7).trans rfl
   have if7 := blk_frozen hki 7
   have HKR1 := Aside0.mk hkr
   clear h hkr hki
   go_wp2
   have HS := set8 HKR1.out (.int .u8 0) (.int .u8 0) (.int .u8 0) (.int .u8 0) (.int .u8 0) (.int .u8 0) (.int .u8 0) (.int .u8 0)
   refine bodyPost_ret (results_cell_row rfl _ _ w.heap.size 41 _ (0, 0) _ rfl HS.1 Try.underlying41 rfl (by kernel_rfl)) rfl ?_
   exact ⟨rfl, Mt0.cells HSZ.out.1 HGB.out HCH.out H.out ((HS.2.mono (fun i q => by have q' : i = w.heap.size := q; omega)))⟩
set_option maxHeartbeats 8000000 in
set_option maxRecDepth 100000 in
theorem mpoint0 (gm gb : Nat) (A : Option Addr) (c : Nat) (l : List Int) (e0 : Int) (y0 y1 : Value) (w : World) (hm : M0 w gm gb A c l e0 y0 y1) (hby : IsBytes l) (hgb : gb < w.heap.size) :
 Calls Try.prog 61 #[.pointer (some ⟨gm, 0, none⟩)] w fun e w' => e = .returned (.agg #[.int .i16 (pointR l e0).1.1, .int .i16 (pointR l e0).1.2]) ∧ Mt0 gm gb (pointR l e0).2.1 (pointR l e0).2.2 y0 y1 w w' := by
 have q22 := eql_nil
 have HBY := Aside0.mk hby
 have HCH : Aside0 (Chg (· = gm) w (w.alloc (.cells #[Value.int .i16 0, Value.int .i16 0] 44))) := ⟨Chg.alloc (Chg.refl _ _) _⟩
 have HSZ : Aside0 (gm < w.heap.size ∧ (w.alloc (.cells #[Value.int .i16 0, Value.int .i16 0] 44)).heap.size = w.heap.size + 1) := ⟨blk_lt hm.blk, by rw [World.size_alloc]⟩
 have HGB := Aside0.mk hgb
 have HK : Aside0 (M0 (w.alloc (.cells #[Value.int .i16 0, Value.int .i16 0] 44)) gm gb A c l e0 y0 y1) := ⟨hm.keep (Chg.alloc (F := fun _ => False) (Chg.refl _ _) _) (fun q => q) (fun q => q)⟩
 have HFL := Aside0.mk hm.rest.flt
 clear hm hgb hby
 by_cases he : e0 = 0
 · subst he
   by_cases hl : l.length < 4
   · have e : pointR l 0 = ((0, 0), [], 20) := by
      match l, hl with
      | [], _ => rfl
      | [a], _ => rfl
      | [a, b], _ => rfl
      | [a, b, c], _ => rfl
     rw [e]
     clear e
     have HT := Aside0.mk (mtake_short0 gm gb A c l y0 y1 _ HK.out 4 (by omega))
     clear hl
     go_enter Try.func61, Try.ntmps61
     go_wp2_with fail
     refine HT.out.mono ?_
     rintro e w1 ⟨rfl, h⟩
     have H := Aside0.mk h
     have hk : w1.heap[w.heap.size]? = some (.cells #[Value.int .i16 0, Value.int .i16 0] 44 (0, 0)) := (h.choose_spec.choose_spec.2.block _ (by rw [HSZ.out.2]; omega) (by have := HSZ.out.1; omega)).trans (blk_new w _)
     have HK1 := Aside0.mk hk
     have rc0 : w1.cell? ⟨w.heap.size, 0, none⟩ = some (.int .i16 0) := (blk_cell hk 0).trans rfl
     have rf0 := blk_frozen hk 0
     have rc1 : w1.cell? ⟨w.heap.size, 1, none⟩ = some (.int .i16 0) := (blk_cell hk 1).trans rfl
     have rf1 := blk_frozen hk 1
     clear h hk
     go_wp2
     refine bodyPost_ret (results_cell_row rfl _ _ w.heap.size 44 _ (0, 0) _ rfl (blk_put (blk_put HK1.out 0 _ rfl) 1 _ rfl) Try.underlying44 rfl (by kernel_rfl)) rfl ?_
     exact ⟨rfl, Mt0.cells HSZ.out.1 HGB.out HCH.out H.out (Chg.setCell (F := fun k => w.heap.size ≤ k) (Chg.setCell (F := fun k => w.heap.size ≤ k) (Chg.refl _ _) (p := ⟨w.heap.size, 0, none⟩) (Or.inl (Nat.le_refl _)) _) (p := ⟨w.heap.size, 1, none⟩) (Or.inl (Nat.le_refl _)) _)⟩
   · rcases HK.out.rest.src with ⟨_, q, _⟩ | ⟨off, cs, t, rfl, _⟩
     · subst q; simp at hl
     · obtain ⟨a, b, c0, d, t, rfl⟩ : ∃ a b c d t, l = a :: b :: c :: d :: t := by
        match l, hl with
        | [], h => simp at h
        | [a], h => simp at h
        | [a, b], h => simp at h
        | [a, b, c], h => simp at h
        | a :: b :: c :: d :: t, _ => exact ⟨a, b, c, d, t, rfl⟩
       have e : pointR (a :: b :: c0 :: d :: t) 0 = ((pairI a b, pairI c0 d), t, 0) := rfl
       rw [e]
       clear e
       have HT := Aside0.mk (mtake0 gm gb off c (a :: b :: c0 :: d :: t) y0 y1 _ HK.out 4 (by omega))
       clear hl
       have ba := HBY.out a (by simp)
       have bb := HBY.out b (by simp)
       have bc := HBY.out c0 (by simp)
       have bd := HBY.out d (by simp)
       have HP1 := Aside0.mk (pair_sum a b ba.1 ba.2 bb.1 bb.2)
       have HP2 := Aside0.mk (pair_sum c0 d bc.1 bc.2 bd.1 bd.2)
       clear ba bb bc bd
       go_enter Try.func61, Try.ntmps61
       go_wp2_with fail
       refine HT.out.mono ?_
       rintro e w1 ⟨rfl, hC, h⟩
       have H := Aside0.mk h
       have hk : w1.heap[w.heap.size]? = some (.cells #[Value.int .i16 0, Value.int .i16 0] 44 (0, 0)) := (h.choose_spec.choose_spec.2.block _ (by rw [HSZ.out.2]; omega) (by have := HSZ.out.1; omega)).trans (blk_new w _)
       have HK1 := Aside0.mk hk
       have rc0 : w1.cell? ⟨w.heap.size, 0, none⟩ = some (.int .i16 0) := (blk_cell hk 0).trans rfl
       have rf0 := blk_frozen hk 0
       have rc1 : w1.cell? ⟨w.heap.size, 1, none⟩ = some (.int .i16 0) := (blk_cell hk 1).trans rfl
       have rf1 := blk_frozen hk 1
       have c0_ : w1.cell? ⟨gb, off, none⟩ = some (.int .u8 a) := C_read hC 0 (by omega)
       have c1_ : w1.cell? ⟨gb, off + 1, none⟩ = some (.int .u8 b) := C_read hC 1 (by omega)
       have c2_ : w1.cell? ⟨gb, off + 2, none⟩ = some (.int .u8 c0) := C_read hC 2 (by omega)
       have c3_ : w1.cell? ⟨gb, off + 3, none⟩ = some (.int .u8 d) := C_read hC 3 (by omega)
       clear h hk hC
       go_upto_region 4 with (fail)
       refine start_ (n := 24) (S := fun w' => w'.cell? ⟨gb, off, none⟩ = some (.int .u8 a) ∧ w'.cell? ⟨gb, off + 1, none⟩ = some (.int .u8 b) ∧ w'.cell? ⟨gb, off + 2, none⟩ = some (.int .u8 c0) ∧ w'.cell? ⟨gb, off + 3, none⟩ = some (.int .u8 d)) (ds := [23]) #[false, false, false, false, false, false, false, false, false, false, false, false, false, false, false, false, false, false, false, false, false, false, false, false] (by kernel_rfl) rfl rfl ⟨c0_, c1_, c2_, c3_⟩ (fun hHeld => ?_)
       refine pure_ (i := 0) (N := some 13) (v := ?_) (a' := ?_) #[true, false, false, false, false, false, false, false, false, false, false, false, false, false, false, false, false, false, false, false, false, false, false, false] rfl rfl (by kernel_rfl) (fun _ _ _ h => h) (Or.inl ⟨by rfl, ?_⟩) ?_ ?_
       rotate_left
       · intro w'
         go_simp
         with_reducible rfl
       rotate_left
       · simp only [Act.put, List.setIfInBounds_toArray, List.set_cons_zero, List.set_cons_succ]
         rfl
       refine pure_ (i := 1) (N := some 14) (v := ?_) (a' := ?_) #[true, true, false, false, false, false, false, false, false, false, false, false, false, false, false, false, false, false, false, false, false, false, false, false] rfl rfl (by kernel_rfl) (fun _ _ _ h => h) (Or.inl ⟨by rfl, ?_⟩) ?_ ?_
       rotate_left
       · intro w'
         go_simp
         with_reducible rfl
       rotate_left
       · simp only [Act.put, List.setIfInBounds_toArray, List.set_cons_zero, List.set_cons_succ]
         rfl
       refine take_ (i := 2) (N := some 15) (v := ?_) (a' := ?_) #[true, true, true, false, false, false, false, false, false, false, false, false, false, false, false, false, false, false, false, false, false, false, false, false] rfl rfl (by kernel_rfl) (fun _ _ _ h => h) (Or.inl ⟨by rfl, ?_⟩) hHeld ?_ ?_
       rotate_left
       · rintro w' ⟨s0, s1, s2, s3⟩
         go_simp
         with_reducible rfl
       rotate_left
       · simp only [Act.put, List.setIfInBounds_toArray, List.set_cons_zero, List.set_cons_succ]
         rfl
       refine pure_ (i := 3) (N := some 16) (v := ?_) (a' := ?_) #[true, true, true, true, false, false, false, false, false, false, false, false, false, false, false, false, false, false, false, false, false, false, false, false] rfl rfl (by kernel_rfl) (fun _ _ _ h => h) (Or.inl ⟨by rfl, ?_⟩) ?_ ?_
       rotate_left
       · intro w'
         go_simp
         with_reducible rfl
       rotate_left
       · simp only [Act.put, List.setIfInBounds_toArray, List.set_cons_zero, List.set_cons_succ]
         rfl
       refine pure_ (i := 4) (N := some 17) (v := ?_) (a' := ?_) #[true, true, true, true, true, false, false, false, false, false, false, false, false, false, false, false, false, false, false, false, false, false, false, false] rfl rfl (by kernel_rfl) (fun _ _ _ h => h) (Or.inl ⟨by rfl, ?_⟩) ?_ ?_
       rotate_left
       · intro w'
         go_simp
         with_reducible rfl
       rotate_left
       · simp only [Act.put, List.setIfInBounds_toArray, List.set_cons_zero, List.set_cons_succ]
         rfl
       refine pure_ (i := 5) (N := some 18) (v := ?_) (a' := ?_) #[true, true, true, true, true, true, false, false, false, false, false, false, false, false, false, false, false, false, false, false, false, false, false, false] rfl rfl (by kernel_rfl) (fun _ _ _ h => h) (Or.inl ⟨by rfl, ?_⟩) ?_ ?_
       rotate_left
       · intro w'
         go_simp
         with_reducible rfl
       rotate_left
       · simp only [Act.put, List.setIfInBounds_toArray, List.set_cons_zero, List.set_cons_succ]
         rfl
       refine pure_ (i := 6) (N := some 19) (v := ?_) (a' := ?_) #[true, true, true, true, true, true, true, false, false, false, false, false, false, false, false, false, false, false, false, false, false, false, false, false] rfl rfl (by kernel_rfl) (fun _ _ _ h => h) (Or.inl ⟨by rfl, ?_⟩) ?_ ?_
       rotate_left
       · intro w'
         go_simp
         with_reducible rfl
       rotate_left
       · simp only [Act.put, List.setIfInBounds_toArray, List.set_cons_zero, List.set_cons_succ]
         rfl
       refine take_ (i := 7) (N := some 20) (v := ?_) (a' := ?_) #[true, true, true, true, true, true, true, true, false, false, false, false, false, false, false, false, false, false, false, false, false, false, false, false] rfl rfl (by kernel_rfl) (fun _ _ _ h => h) (Or.inl ⟨by rfl, ?_⟩) hHeld ?_ ?_
       rotate_left
       · rintro w' ⟨s0, s1, s2, s3⟩
         go_simp
         with_reducible rfl
       rotate_left
       · simp only [Act.put, List.setIfInBounds_toArray, List.set_cons_zero, List.set_cons_succ]
         rfl
       refine pure_ (i := 8) (N := some 21) (v := ?_) (a' := ?_) #[true, true, true, true, true, true, true, true, true, false, false, false, false, false, false, false, false, false, false, false, false, false, false, false] rfl rfl (by kernel_rfl) (fun _ _ _ h => h) (Or.inl ⟨by rfl, ?_⟩) ?_ ?_
       rotate_left
       · intro w'
         go_simp
         with_reducible rfl
       rotate_left
       · simp only [Act.put, List.setIfInBounds_toArray, List.set_cons_zero, List.set_cons_succ]
         rfl
       refine pure_ (i := 9) (N := some 22) (v := ?_) (a' := ?_) #[true, true, true, true, true, true, true, true, true, true, false, false, false, false, false, false, false, false, false, false, false, false, false, false] rfl rfl (by kernel_rfl) (fun _ _ _ h => h) (Or.inl ⟨by rfl, ?_⟩) ?_ ?_
       rotate_left
       · intro w'
         go_simp
         with_reducible rfl
       rotate_left
       · simp only [Act.put, List.setIfInBounds_toArray, List.set_cons_zero, List.set_cons_succ]
         rfl
       refine pure_ (i := 10) (N := some 23) (v := ?_) (a' := ?_) #[true, true, true, true, true, true, true, true, true, true, true, false, false, false, false, false, false, false, false, false, false, false, false, false] rfl rfl (by kernel_rfl) (fun _ _ _ h => h) (Or.inl ⟨by rfl, ?_⟩) ?_ ?_
       rotate_left
       · intro w'
         go_simp
         with_reducible rfl
       rotate_left
       · simp only [Act.put, List.setIfInBounds_toArray, List.set_cons_zero, List.set_cons_succ]
         rfl
       refine pure_ (i := 11) (N := some 24) (v := ?_) (a' := ?_) #[true, true, true, true, true, true, true, true, true, true, true, true, false, false, false, false, false, false, false, false, false, false, false, false] rfl rfl (by kernel_rfl) (fun _ _ _ h => h) (Or.inl ⟨by rfl, ?_⟩) ?_ ?_
       rotate_left
       · intro w'
         go_simp
         with_reducible rfl
       rotate_left
       · simp only [Act.put, List.setIfInBounds_toArray, List.set_cons_zero, List.set_cons_succ]
         rfl
       refine pure_ (i := 12) (N := some 25) (v := ?_) (a' := ?_) #[true, true, true, true, true, true, true, true, true, true, true, true, true, false, false, false, false, false, false, false, false, false, false, false] rfl rfl (by kernel_rfl) (fun _ _ _ h => h) (Or.inl ⟨by rfl, ?_⟩) ?_ ?_
       rotate_left
       · intro w'
         go_simp
         with_reducible rfl
       rotate_left
       · simp only [Act.put, List.setIfInBounds_toArray, List.set_cons_zero, List.set_cons_succ]
         rfl
       refine take_ (i := 13) (N := some 26) (v := ?_) (a' := ?_) #[true, true, true, true, true, true, true, true, true, true, true, true, true, true, false, false, false, false, false, false, false, false, false, false] rfl rfl (by kernel_rfl) (fun _ _ _ h => h) (Or.inl ⟨by rfl, ?_⟩) hHeld ?_ ?_
       rotate_left
       · rintro w' ⟨s0, s1, s2, s3⟩
         go_simp
         with_reducible rfl
       rotate_left
       · simp only [Act.put, List.setIfInBounds_toArray, List.set_cons_zero, List.set_cons_succ]
         rfl
       refine pure_ (i := 14) (N := some 27) (v := ?_) (a' := ?_) #[true, true, true, true, true, true, true, true, true, true, true, true, true, true, true, false, false, false, false, false, false, false, false, false] rfl rfl (by kernel_rfl) (fun _ _ _ h => h) (Or.inl ⟨by rfl, ?_⟩) ?_ ?_
       rotate_left
       · intro w'
         go_simp
         with_reducible rfl
       rotate_left
       · simp only [Act.put, List.setIfInBounds_toArray, List.set_cons_zero, List.set_cons_succ]
         rfl
       refine pure_ (i := 15) (N := some 28) (v := ?_) (a' := ?_) #[true, true, true, true, true, true, true, true, true, true, true, true, true, true, true, true, false, false, false, false, false, false, false, false] rfl rfl (by kernel_rfl) (fun _ _ _ h => h) (Or.inl ⟨by rfl, ?_⟩) ?_ ?_
       rotate_left
       · intro w'
         go_simp
         with_reducible rfl
       rotate_left
       · simp only [Act.put, List.setIfInBounds_toArray, List.set_cons_zero, List.set_cons_succ]
         rfl
       refine pure_ (i := 16) (N := some 29) (v := ?_) (a' := ?_) #[true, true, true, true, true, true, true, true, true, true, true, true, true, true, true, true, true, false, false, false, false, false, false, false] rfl rfl (by kernel_rfl) (fun _ _ _ h => h) (Or.inl ⟨by rfl, ?_⟩) ?_ ?_
       rotate_left
       · intro w'
         go_simp
         with_reducible rfl
       rotate_left
       · simp only [Act.put, List.setIfInBounds_toArray, List.set_cons_zero, List.set_cons_succ]
         rfl
       refine pure_ (i := 17) (N := some 30) (v := ?_) (a' := ?_) #[true, true, true, true, true, true, true, true, true, true, true, true, true, true, true, true, true, true, false, false, false, false, false, false] rfl rfl (by kernel_rfl) (fun _ _ _ h => h) (Or.inl ⟨by rfl, ?_⟩) ?_ ?_
       rotate_left
       · intro w'
         go_simp
         with_reducible rfl
       rotate_left
       · simp only [Act.put, List.setIfInBounds_toArray, List.set_cons_zero, List.set_cons_succ]
         rfl
       refine take_ (i := 18) (N := some 31) (v := ?_) (a' := ?_) #[true, true, true, true, true, true, true, true, true, true, true, true, true, true, true, true, true, true, true, false, false, false, false, false] rfl rfl (by kernel_rfl) (fun _ _ _ h => h) (Or.inl ⟨by rfl, ?_⟩) hHeld ?_ ?_
       rotate_left
       · rintro w' ⟨s0, s1, s2, s3⟩
         go_simp
         with_reducible rfl
       rotate_left
       · simp only [Act.put, List.setIfInBounds_toArray, List.set_cons_zero, List.set_cons_succ]
         rfl
       refine pure_ (i := 19) (N := some 32) (v := ?_) (a' := ?_) #[true, true, true, true, true, true, true, true, true, true, true, true, true, true, true, true, true, true, true, true, false, false, false, false] rfl rfl (by kernel_rfl) (fun _ _ _ h => h) (Or.inl ⟨by rfl, ?_⟩) ?_ ?_
       rotate_left
       · intro w'
         go_simp
         with_reducible rfl
       rotate_left
       · simp only [Act.put, List.setIfInBounds_toArray, List.set_cons_zero, List.set_cons_succ]
         rfl
       refine pure_ (i := 20) (N := some 33) (v := ?_) (a' := ?_) #[true, true, true, true, true, true, true, true, true, true, true, true, true, true, true, true, true, true, true, true, true, false, false, false] rfl rfl (by kernel_rfl) (fun _ _ _ h => h) (Or.inl ⟨by rfl, ?_⟩) ?_ ?_
       rotate_left
       · intro w'
         go_simp
         with_reducible rfl
       rotate_left
       · simp only [Act.put, List.setIfInBounds_toArray, List.set_cons_zero, List.set_cons_succ]
         rfl
       refine pure_ (i := 21) (N := some 34) (v := ?_) (a' := ?_) #[true, true, true, true, true, true, true, true, true, true, true, true, true, true, true, true, true, true, true, true, true, true, false, false] rfl rfl (by kernel_rfl) (fun _ _ _ h => h) (Or.inl ⟨by rfl, ?_⟩) ?_ ?_
       rotate_left
       · intro w'
         go_simp
         with_reducible rfl
       rotate_left
       · simp only [Act.put, List.setIfInBounds_toArray, List.set_cons_zero, List.set_cons_succ]
         rfl
       refine pure_ (i := 22) (N := some 35) (v := ?_) (a' := ?_) #[true, true, true, true, true, true, true, true, true, true, true, true, true, true, true, true, true, true, true, true, true, true, true, false] rfl rfl (by kernel_rfl) (fun _ _ _ h => h) (Or.inl ⟨by rfl, ?_⟩) ?_ ?_
       rotate_left
       · intro w'
         go_simp
         with_reducible rfl
       rotate_left
       · simp only [Act.put, List.setIfInBounds_toArray, List.set_cons_zero, List.set_cons_succ]
         rfl
       refine last_ (i := 23) (N := none) #[true, true, true, true, true, true, true, true, true, true, true, true, true, true, true, true, true, true, true, true, true, true, true, true] rfl rfl (by kernel_rfl) (by decide) (fun K hK => ?_)
       refine skip_ (w1 := ?_) (by rfl) rfl ?_ ?_
       rotate_left
       · go_simp
         rfl
       refine hK.out _ _ ?_
       clear hK K
       refine done_ (by kernel_rfl) ?_
       go_wp2
       refine bodyPost_ret (results_cell_row rfl _ _ w.heap.size 44 _ (0, 0) _ rfl (blk_put (blk_put (blk_drew HK1.out) 0 _ rfl) 1 _ rfl) Try.underlying44 rfl (by kernel_rfl)) rfl ?_
       rw [HP1.out, HP2.out]
       exact ⟨rfl, Mt0.cells HSZ.out.1 HGB.out HCH.out H.out (Chg.drew (Chg.setCell (F := fun k => w.heap.size ≤ k) (Chg.setCell (F := fun k => w.heap.size ≤ k) (Chg.refl _ _) (p := ⟨w.heap.size, 0, none⟩) (Or.inl (Nat.le_refl _)) _) (p := ⟨w.heap.size, 1, none⟩) (Or.inl (Nat.le_refl _)) _))⟩
 · have hl := HFL.out he
   subst hl
   have e : pointR [] e0 = ((0, 0), [], e0) := by simp [pointR, he]
   rw [e]
   have HT := Aside0.mk (mtake_fault0 gm gb A c [] e0 y0 y1 _ HK.out 4 he)
   clear e he
   go_enter Try.func61, Try.ntmps61
   go_wp2_with fail
   refine HT.out.mono ?_
   rintro e w1 ⟨rfl, hw⟩
   have h : Mt0 gm gb [] e0 y0 y1 (w.alloc (.cells #[Value.int .i16 0, Value.int .i16 0] 44)) w1 := by rw [hw]; exact Mt0.refl HK.out
   clear hw
   have H := Aside0.mk h
   have hk : w1.heap[w.heap.size]? = some (.cells #[Value.int .i16 0, Value.int .i16 0] 44 (0, 0)) := (h.choose_spec.choose_spec.2.block _ (by rw [HSZ.out.2]; omega) (by have := HSZ.out.1; omega)).trans (blk_new w _)
   have HK1 := Aside0.mk hk
   have rc0 : w1.cell? ⟨w.heap.size, 0, none⟩ = some (.int .i16 0) := (blk_cell hk 0).trans rfl
   have rf0 := blk_frozen hk 0
   have rc1 : w1.cell? ⟨w.heap.size, 1, none⟩ = some (.int .i16 0) := (blk_cell hk 1).trans rfl
   have rf1 := blk_frozen hk 1
   clear h hk
   go_wp2
   refine bodyPost_ret (results_cell_row rfl _ _ w.heap.size 44 _ (0, 0) _ rfl (blk_put (blk_put HK1.out 0 _ rfl) 1 _ rfl) Try.underlying44 rfl (by kernel_rfl)) rfl ?_
   exact ⟨rfl, Mt0.cells HSZ.out.1 HGB.out HCH.out H.out (Chg.setCell (F := fun k => w.heap.size ≤ k) (Chg.setCell (F := fun k => w.heap.size ≤ k) (Chg.refl _ _) (p := ⟨w.heap.size, 0, none⟩) (Or.inl (Nat.le_refl _)) _) (p := ⟨w.heap.size, 1, none⟩) (Or.inl (Nat.le_refl _)) _)⟩
set_option maxHeartbeats 8000000 in
set_option maxRecDepth 100000 in
theorem mtext0 (gm gb : Nat) (A : Option Addr) (c : Nat) (l : List Int) (e0 : Int) (y0 y1 : Value) (w : World) (hm : M0 w gm gb A c l e0 y0 y1) (hby : IsBytes l) (most : Int) (hmost : most ≤ 9223372036854775807) :
 Calls Try.prog 62 #[.pointer (some ⟨gm, 0, none⟩), .int .i64 most] w fun e w' => e = .returned (.string (strOfNums (textR most l e0).1)) ∧ Mt0 gm gb (textR most l e0).2.1 (textR most l e0).2.2 y0 y1 w w' := by
 have HM := Aside0.mk hm
 have HBY := Aside0.mk hby
 clear hm hby
 have hemp : strOfNums [] = ByteArray.empty := rfl
 by_cases hmo : most < 0
 · have e : textR most l e0 = ([], [], failE 1 e0) := by simp [textR, hmo]
   rw [e, hemp]
   clear e
   go_enter Try.func62, Try.ntmps62
   go_wp2_with fail
   refine (mfail0 gm gb A c l e0 y0 y1 w HM.out 1 (by decide)).mono ?_
   rintro e w1 ⟨rfl, h⟩
   have H := Aside0.mk h
   clear h
   go_wp2
   go_ret
   exact ⟨rfl, H.out⟩
 · obtain ⟨M, hM⟩ := Int.eq_ofNat_of_zero_le (show 0 ≤ most by omega)
   subst hM
   have HV := Aside0.mk (mvar0 gm gb A c l e0 y0 y1 w HM.out HBY.out)
   have HNB := Aside0.mk (varR_bound l HBY.out e0)
   have HBAD := Aside0.mk (varR_bad l e0)
   have e : textR M l e0 = (if (M : Int) < (varR l e0).1 then ([], [], failE 3 (varR l e0).2.2) else if (varR l e0).2.1.length < (varR l e0).1 then ([], [], failE 20 (varR l e0).2.2) else nextR (varR l e0).1 (varR l e0).2.1 (varR l e0).2.2) := by unfold textR; rw [if_neg hmo]
   rw [e]
   clear e
   generalize varR l e0 = res at HV HNB HBAD ⊢
   obtain ⟨n, l1, e1⟩ := res
   have hw1 : IntKind.u64.wrap (M : Int) = (M : Int) := wrap_u64_nonneg (by omega) (by omega)
   by_cases he1 : e1 = 0
   · subst he1
     by_cases h1 : (M : Int) < n
     · simp only [h1, if_true, hemp]
       go_enter Try.func62, Try.ntmps62
       go_wp2_with fail
       refine HV.out.mono ?_
       rintro e w1 ⟨rfl, A1, c1, hm1, hch⟩
       have HM1 := Aside0.mk hm1
       have HCH := Aside0.mk hch
       have hc0 : w1.cell? ⟨gm, 0, none⟩ = some (.slice A1 l1.length c1) := (blk_cell hm1.blk 0).trans rfl
       have hc1 : w1.cell? ⟨gm, 1, none⟩ = some (.int .i64 0) := (blk_cell hm1.blk 1).trans rfl
       have hlen : l1.length ≤ 140737488355328 := hm1.rest.len
       clear hm1 hch
       go_wp2_with fail
       refine (mfail0 gm gb A1 c1 l1 0 y0 y1 w1 HM1.out 3 (by decide)).mono ?_
       rintro e w2 ⟨rfl, h⟩
       have H := Aside0.mk h
       clear h
       go_wp2
       go_ret
       exact ⟨rfl, Mt0.trans HCH.out H.out⟩
     · simp only [h1, if_false]
       by_cases h2 : l1.length < n
       · simp only [h2, if_true, hemp]
         have h3 : (l1.length : Int) < (n : Int) := by omega
         go_enter Try.func62, Try.ntmps62
         go_wp2_with fail
         refine HV.out.mono ?_
         rintro e w1 ⟨rfl, A1, c1, hm1, hch⟩
         have HM1 := Aside0.mk hm1
         have HCH := Aside0.mk hch
         have hc0 : w1.cell? ⟨gm, 0, none⟩ = some (.slice A1 l1.length c1) := (blk_cell hm1.blk 0).trans rfl
         have hc1 : w1.cell? ⟨gm, 1, none⟩ = some (.int .i64 0) := (blk_cell hm1.blk 1).trans rfl
         have hlen : l1.length ≤ 140737488355328 := hm1.rest.len
         clear hm1 hch
         have hw2 : IntKind.u64.wrap (l1.length : Int) = (l1.length : Int) := wrap_u64_nonneg (by omega) (by omega)
         go_wp2_with fail
         refine (mfail0 gm gb A1 c1 l1 0 y0 y1 w1 HM1.out 20 (by decide)).mono ?_
         rintro e w2 ⟨rfl, h⟩
         have H := Aside0.mk h
         clear h
         go_wp2
         go_ret
         exact ⟨rfl, Mt0.trans HCH.out H.out⟩
       · simp only [h2, if_false]
         have e : nextR n l1 0 = (l1.take n, l1.drop n, 0) := by simp [nextR, h2]
         rw [e]
         clear e
         have h3 : ¬ (l1.length : Int) < (n : Int) := by omega
         have HN := Aside0.mk h2
         clear h2
         go_enter Try.func62, Try.ntmps62
         go_wp2_with fail
         refine HV.out.mono ?_
         rintro e w1 ⟨rfl, A1, c1, hm1, hch⟩
         have HM1 := Aside0.mk hm1
         have HCH := Aside0.mk hch
         have hc0 : w1.cell? ⟨gm, 0, none⟩ = some (.slice A1 l1.length c1) := (blk_cell hm1.blk 0).trans rfl
         have hc1 : w1.cell? ⟨gm, 1, none⟩ = some (.int .i64 0) := (blk_cell hm1.blk 1).trans rfl
         have hlen : l1.length ≤ 140737488355328 := hm1.rest.len
         clear hm1 hch
         have hw2 : IntKind.u64.wrap (l1.length : Int) = (l1.length : Int) := wrap_u64_nonneg (by omega) (by omega)
         have hw3 : wrap64 (n : Int) = (n : Int) := by have := HN.out; unfold wrap64; omega
         rcases HM1.out.rest.src with ⟨rfl, rfl, rfl⟩ | ⟨off, cs, t, rfl, _⟩
         · have hn0 : n = 0 := by have := HN.out; simp at this; omega
           subst hn0
           have HT := Aside0.mk (mtake_nil0 gm gb y0 y1 w1 HM1.out)
           go_wp2_with fail
           refine HT.out.mono ?_
           rintro e w2 ⟨rfl, h⟩
           have hcv : (convert 22 9 (.slice none 0 0)).run Try.prog w2 = .ok (.string ByteArray.empty) w2 := conv_text (bs := []) 0 (Kd.C_nil (Kd.int .u8) w2)
           have H := Aside0.mk h
           clear h
           go_wp2
           go_ret
           exact ⟨rfl, Mt0.trans HCH.out H.out⟩
         · have HT := Aside0.mk (mtake0 gm gb off c1 l1 y0 y1 w1 HM1.out n (by have := HN.out; omega))
           obtain ⟨bs, hbs⟩ : ∃ bs, l1.take n = bs := ⟨_, rfl⟩
           have HLEN : Aside0 (n = bs.length) := ⟨by rw [← hbs]; have := HN.out; simp; omega⟩
           rw [hbs] at HT
           have HBS := Aside0.mk hbs
           clear hbs
           go_wp2_with fail
           refine HT.out.mono ?_
           rintro e w2 ⟨rfl, hC, h⟩
           rw [HLEN.out] at hC
           have hcv := conv_text c1 hC
           rw [← HLEN.out] at hcv
           have H := Aside0.mk h
           clear h hC
           go_wp2
           go_ret
           rw [HBS.out]
           exact ⟨rfl, Mt0.trans HCH.out H.out⟩
   · have hn := HBAD.out he1
     have hn2 : n = 0 := hn
     subst hn2
     have hnb2 : (e1 != 0) = true := by simpa using he1
     have e : (if (M : Int) < ((0 : Nat) : Int) then (([], [], failE 3 e1) : List Int × List Int × Int) else if l1.length < 0 then ([], [], failE 20 e1) else nextR 0 l1 e1) = ([], [], e1) := by
      rw [if_neg (by omega), if_neg (by omega)]
      simp [nextR, he1]
     simp only [e, hemp]
     have HE1 := Aside0.mk he1
     clear e he1 hn
     go_enter Try.func62, Try.ntmps62
     go_wp2_with fail
     refine HV.out.mono ?_
     rintro e w1 ⟨rfl, A1, c1, hm1, hch⟩
     have HM1 := Aside0.mk hm1
     have HCH := Aside0.mk hch
     have hc0 : w1.cell? ⟨gm, 0, none⟩ = some (.slice A1 l1.length c1) := (blk_cell hm1.blk 0).trans rfl
     have hc1 : w1.cell? ⟨gm, 1, none⟩ = some (.int .i64 e1) := (blk_cell hm1.blk 1).trans rfl
     have hlen : l1.length ≤ 140737488355328 := hm1.rest.len
     clear hm1 hch
     have hl0 := HM1.out.rest.flt HE1.out
     subst hl0
     go_wp2
     go_ret
     exact ⟨rfl, A1, c1, HM1.out, HCH.out⟩
set_option maxHeartbeats 8000000 in
set_option maxRecDepth 100000 in
theorem mid1 (gm gb : Nat) (A : Option Addr) (c : Nat) (l : List Int) (e0 : Int) (y0 y1 : Value) (w : World) (hm : M1 w gm gb A c l e0 y0 y1) (hgb : gb < w.heap.size) :
 Calls Try.prog 60 #[.pointer (some ⟨gm, 2, none⟩)] w fun e w' => e = .returned (.agg (nums .u8 (idR l e0).1).toArray) ∧ Mt1 gm gb (idR l e0).2.1 (idR l e0).2.2 y0 y1 w w' := by
 have HCH : Aside0 (Chg (· = gm) w ((w.alloc (.cells #[Value.int .u8 0, Value.int .u8 0, Value.int .u8 0, Value.int .u8 0, Value.int .u8 0, Value.int .u8 0, Value.int .u8 0, Value.int .u8 0] 41)).alloc (.cells #[Value.int .u8 0, Value.int .u8 0, Value.int .u8 0, Value.int .u8 0, Value.int .u8 0, Value.int .u8 0, Value.int .u8 0, Value.int .u8 0] 41))) := ⟨Chg.alloc (Chg.alloc (Chg.refl _ _) _) _⟩
 have HSZ : Aside0 (gm < w.heap.size ∧ ((w.alloc (.cells #[Value.int .u8 0, Value.int .u8 0, Value.int .u8 0, Value.int .u8 0, Value.int .u8 0, Value.int .u8 0, Value.int .u8 0, Value.int .u8 0] 41)).alloc (.cells #[Value.int .u8 0, Value.int .u8 0, Value.int .u8 0, Value.int .u8 0, Value.int .u8 0, Value.int .u8 0, Value.int .u8 0, Value.int .u8 0] 41)).heap.size = w.heap.size + 2) := ⟨blk_lt hm.blk, by rw [World.size_alloc, World.size_alloc]⟩
 have HGB := Aside0.mk hgb
 have HKR : Aside0 (((w.alloc (.cells #[Value.int .u8 0, Value.int .u8 0, Value.int .u8 0, Value.int .u8 0, Value.int .u8 0, Value.int .u8 0, Value.int .u8 0, Value.int .u8 0] 41)).alloc (.cells #[Value.int .u8 0, Value.int .u8 0, Value.int .u8 0, Value.int .u8 0, Value.int .u8 0, Value.int .u8 0, Value.int .u8 0, Value.int .u8 0] 41)).heap[w.heap.size]? = some (.cells #[Value.int .u8 0, Value.int .u8 0, Value.int .u8 0, Value.int .u8 0, Value.int .u8 0, Value.int .u8 0, Value.int .u8 0, Value.int .u8 0] 41 (0, 0))) := ⟨((Chg.alloc (F := fun _ => False) (Chg.refl _ (w.alloc (.cells #[Value.int .u8 0, Value.int .u8 0, Value.int .u8 0, Value.int .u8 0, Value.int .u8 0, Value.int .u8 0, Value.int .u8 0, Value.int .u8 0] 41))) (.cells #[Value.int .u8 0, Value.int .u8 0, Value.int .u8 0, Value.int .u8 0, Value.int .u8 0, Value.int .u8 0, Value.int .u8 0, Value.int .u8 0] 41)).block _ (by rw [World.size_alloc]; omega) (fun q => q)).trans (blk_new w (.cells #[Value.int .u8 0, Value.int .u8 0, Value.int .u8 0, Value.int .u8 0, Value.int .u8 0, Value.int .u8 0, Value.int .u8 0, Value.int .u8 0] 41))⟩
 have HKI : Aside0 (((w.alloc (.cells #[Value.int .u8 0, Value.int .u8 0, Value.int .u8 0, Value.int .u8 0, Value.int .u8 0, Value.int .u8 0, Value.int .u8 0, Value.int .u8 0] 41)).alloc (.cells #[Value.int .u8 0, Value.int .u8 0, Value.int .u8 0, Value.int .u8 0, Value.int .u8 0, Value.int .u8 0, Value.int .u8 0, Value.int .u8 0] 41)).heap[w.heap.size + 1]? = some (.cells #[Value.int .u8 0, Value.int .u8 0, Value.int .u8 0, Value.int .u8 0, Value.int .u8 0, Value.int .u8 0, Value.int .u8 0, Value.int .u8 0] 41 (0, 0))) := ⟨by have := blk_new (w.alloc (.cells #[Value.int .u8 0, Value.int .u8 0, Value.int .u8 0, Value.int .u8 0, Value.int .u8 0, Value.int .u8 0, Value.int .u8 0, Value.int .u8 0] 41)) (.cells #[Value.int .u8 0, Value.int .u8 0, Value.int .u8 0, Value.int .u8 0, Value.int .u8 0, Value.int .u8 0, Value.int .u8 0, Value.int .u8 0] 41); rwa [World.size_alloc] at this⟩
 have HK : Aside0 (M1 ((w.alloc (.cells #[Value.int .u8 0, Value.int .u8 0, Value.int .u8 0, Value.int .u8 0, Value.int .u8 0, Value.int .u8 0, Value.int .u8 0, Value.int .u8 0] 41)).alloc (.cells #[Value.int .u8 0, Value.int .u8 0, Value.int .u8 0, Value.int .u8 0, Value.int .u8 0, Value.int .u8 0, Value.int .u8 0, Value.int .u8 0] 41)) gm gb A c l e0 y0 y1) := ⟨hm.keep (Chg.alloc (F := fun _ => False) (Chg.alloc (Chg.refl _ _) _) _) (fun q => q) (fun q => q)⟩
 have HFL := Aside0.mk hm.rest.flt
 clear hm hgb
 by_cases he : e0 = 0
 · subst he
   by_cases hl : l.length < 8
   · have e : idR l 0 = (List.replicate 8 0, [], 20) := by simp [idR, hl]
     rw [e]
     clear e
     have HT := Aside0.mk (mtake_short1 gm gb A c l y0 y1 _ HK.out 8 (by omega))
     clear hl
     go_enter Try.func60, Try.ntmps60
     go_wp2_with fail
     refine HT.out.mono ?_
     rintro e w1 ⟨rfl, h⟩
     have H := Aside0.mk h
     have hkr : w1.heap[w.heap.size]? = some (.cells #[Value.int .u8 0, Value.int .u8 0, Value.int .u8 0, Value.int .u8 0, Value.int .u8 0, Value.int .u8 0, Value.int .u8 0, Value.int .u8 0] 41 (0, 0)) := (h.choose_spec.choose_spec.2.block _ (by rw [HSZ.out.2]; omega) (by have := HSZ.out.1; omega)).trans HKR.out
     have hki : w1.heap[w.heap.size + 1]? = some (.cells #[Value.int .u8 0, Value.int .u8 0, Value.int .u8 0, Value.int .u8 0, Value.int .u8 0, Value.int .u8 0, Value.int .u8 0, Value.int .u8 0] 41 (0, 0)) := (h.choose_spec.choose_spec.2.block _ (by rw [HSZ.out.2]; omega) (by have := HSZ.out.1; omega)).trans HKI.out
     have rc0 : w1.cell? ⟨w.heap.size, 0, none⟩ = some (.int .u8 0) := (blk_cell hkr 0).trans rfl
     have rf0 := blk_frozen hkr 0
     have rc1 : w1.cell? ⟨w.heap.size, 1, none⟩ = some (.int .u8 0) := (blk_cell hkr 1).trans rfl
     have rf1 := blk_frozen hkr 1
     have rc2 : w1.cell? ⟨w.heap.size, 2, none⟩ = some (.int .u8 0) := (blk_cell hkr 2).trans rfl
     have rf2 := blk_frozen hkr 2
     have rc3 : w1.cell? ⟨w.heap.size, 3, none⟩ = some (.int .u8 0) := (blk_cell hkr 3).trans rfl
     have rf3 := blk_frozen hkr 3
     have rc4 : w1.cell? ⟨w.heap.size, 4, none⟩ = some (.int .u8 0) := (blk_cell hkr 4).trans rfl
     have rf4 := blk_frozen hkr 4
     have rc5 : w1.cell? ⟨w.heap.size, 5, none⟩ = some (.int .u8 0) := (blk_cell hkr 5).trans rfl
     have rf5 := blk_frozen hkr 5
     have rc6 : w1.cell? ⟨w.heap.size, 6, none⟩ = some (.int .u8 0) := (blk_cell hkr 6).trans rfl
     have rf6 := blk_frozen hkr 6
     have rc7 : w1.cell? ⟨w.heap.size, 7, none⟩ = some (.int .u8 0) := (blk_cell hkr 7).trans rfl
     have rf7 := blk_frozen hkr 7
     have ic0 : w1.cell? ⟨w.heap.size + 1, 0, none⟩ = some (.int .u8 0) := (blk_cell hki 0).trans rfl
     have if0 := blk_frozen hki 0
     have ic1 : w1.cell? ⟨w.heap.size + 1, 1, none⟩ = some (.int .u8 0) := (blk_cell hki 1).trans rfl
     have if1 := blk_frozen hki 1
     have ic2 : w1.cell? ⟨w.heap.size + 1, 2, none⟩ = some (.int .u8 0) := (blk_cell hki 2).trans rfl
     have if2 := blk_frozen hki 2
     have ic3 : w1.cell? ⟨w.heap.size + 1, 3, none⟩ = some (.int .u8 0) := (blk_cell hki 3).trans rfl
     have if3 := blk_frozen hki 3
     have ic4 : w1.cell? ⟨w.heap.size + 1, 4, none⟩ = some (.int .u8 0) := (blk_cell hki 4).trans rfl
     have if4 := blk_frozen hki 4
     have ic5 : w1.cell? ⟨w.heap.size + 1, 5, none⟩ = some (.int .u8 0) := (blk_cell hki 5).trans rfl
     have if5 := blk_frozen hki 5
     have ic6 : w1.cell? ⟨w.heap.size + 1, 6, none⟩ = some (.int .u8 0) := (blk_cell hki 6).trans rfl
     have if6 := blk_frozen hki 6
     have ic7 : w1.cell? ⟨w.heap.size + 1, 7, none⟩ = some (.int .u8 0) := (blk_cell hki 7).trans rfl
     have if7 := blk_frozen hki 7
     have HKR1 := Aside0.mk hkr
     clear h hkr hki
     go_wp2
     have HS := set8 HKR1.out (.int .u8 0) (.int .u8 0) (.int .u8 0) (.int .u8 0) (.int .u8 0) (.int .u8 0) (.int .u8 0) (.int .u8 0)
     refine bodyPost_ret (results_cell_row rfl _ _ w.heap.size 41 _ (0, 0) _ rfl HS.1 Try.underlying41 rfl (by kernel_rfl)) rfl ?_
     exact ⟨rfl, Mt1.cells HSZ.out.1 HGB.out HCH.out H.out ((HS.2.mono (fun i q => by have q' : i = w.heap.size := q; omega)))⟩
   · have e : idR l 0 = (l.take 8, l.drop 8, 0) := by simp [idR, hl]
     rw [e]
     clear e
     rcases HK.out.rest.src with ⟨_, q, _⟩ | ⟨off, cs, t, rfl, hne, hcs⟩
     · subst q; simp at hl
     · have HT := Aside0.mk (mtake1 gm gb off c l y0 y1 _ HK.out 8 (by omega))
       have HLEN : Aside0 ((l.take 8).length = 8) := ⟨by simp; omega⟩
       have HCS : Aside0 (gb ≠ gm ∧ ((w.alloc (.cells #[Value.int .u8 0, Value.int .u8 0, Value.int .u8 0, Value.int .u8 0, Value.int .u8 0, Value.int .u8 0, Value.int .u8 0, Value.int .u8 0] 41)).alloc (.cells #[Value.int .u8 0, Value.int .u8 0, Value.int .u8 0, Value.int .u8 0, Value.int .u8 0, Value.int .u8 0, Value.int .u8 0, Value.int .u8 0] 41)).heap[gb]? = some (.cells cs t (0, 0))) := ⟨hne, hcs⟩
       clear hl hne hcs
       generalize l.take 8 = bs at HT HLEN ⊢
       generalize l.drop 8 = l1 at HT ⊢
       go_enter Try.func60, Try.ntmps60
       go_wp2_with fail
       refine HT.out.mono ?_
       rintro e w1 ⟨rfl, hC, h⟩
       have H := Aside0.mk h
       have hkr : w1.heap[w.heap.size]? = some (.cells #[Value.int .u8 0, Value.int .u8 0, Value.int .u8 0, Value.int .u8 0, Value.int .u8 0, Value.int .u8 0, Value.int .u8 0, Value.int .u8 0] 41 (0, 0)) := (h.choose_spec.choose_spec.2.block _ (by rw [HSZ.out.2]; omega) (by have := HSZ.out.1; omega)).trans HKR.out
       have hki : w1.heap[w.heap.size + 1]? = some (.cells #[Value.int .u8 0, Value.int .u8 0, Value.int .u8 0, Value.int .u8 0, Value.int .u8 0, Value.int .u8 0, Value.int .u8 0, Value.int .u8 0] 41 (0, 0)) := (h.choose_spec.choose_spec.2.block _ (by rw [HSZ.out.2]; omega) (by have := HSZ.out.1; omega)).trans HKI.out
       have HC := Aside0.mk hC
       have hgbw : w1.heap[gb]? = some (.cells cs t (0, 0)) := (h.choose_spec.choose_spec.2.block _ (blk_lt HCS.out.2) HCS.out.1).trans HCS.out.2
       have HGBW := Aside0.mk hgbw
       have HKR1 := Aside0.mk hkr
       have HKI1 := Aside0.mk hki
       have hsz := h.choose_spec.choose_spec.2.size
       rw [HSZ.out.2] at hsz
       have HSZ1 := Aside0.mk hsz
       clear h hC hkr hki hgbw hsz
       go_wp2
       go_loopg [6] 8 (fun kq v6 wr => ∃ (j : Nat), v6 = .int .i64 j ∧ Aside0 (j + kq = 8) ∧ Aside0 (wr.heap[w.heap.size + 1]? = some (.cells (idA bs j) 41 (0, 0))) ∧ Aside0 (Chg (· = w.heap.size + 1) w1 wr))
       case atStart => exact ⟨0, rfl, ⟨by omega⟩, ⟨HKI1.out⟩, ⟨Chg.refl _ _⟩⟩
       case round =>
        obtain ⟨j, rfl, HJ, HA, HX⟩ := hrel
        have HKR2 : Aside0 (wr.heap[w.heap.size]? = some (.cells #[Value.int .u8 0, Value.int .u8 0, Value.int .u8 0, Value.int .u8 0, Value.int .u8 0, Value.int .u8 0, Value.int .u8 0, Value.int .u8 0] 41 (0, 0))) := ⟨(HX.out.block _ (by have := HSZ1.out; omega) (by omega)).trans HKR1.out⟩
        cases gk with
        | zero =>
         have hj : j = 8 := by have := HJ.out; omega
         subst hj
         rw [idA_all bs HLEN.out] at HA
         have rc0 : wr.cell? ⟨w.heap.size, 0, none⟩ = some (.int .u8 0) := (blk_cell HKR2.out 0).trans rfl
         have rf0 := blk_frozen HKR2.out 0
         have rc1 : wr.cell? ⟨w.heap.size, 1, none⟩ = some (.int .u8 0) := (blk_cell HKR2.out 1).trans rfl
         have rf1 := blk_frozen HKR2.out 1
         have rc2 : wr.cell? ⟨w.heap.size, 2, none⟩ = some (.int .u8 0) := (blk_cell HKR2.out 2).trans rfl
         have rf2 := blk_frozen HKR2.out 2
         have rc3 : wr.cell? ⟨w.heap.size, 3, none⟩ = some (.int .u8 0) := (blk_cell HKR2.out 3).trans rfl
         have rf3 := blk_frozen HKR2.out 3
         have rc4 : wr.cell? ⟨w.heap.size, 4, none⟩ = some (.int .u8 0) := (blk_cell HKR2.out 4).trans rfl
         have rf4 := blk_frozen HKR2.out 4
         have rc5 : wr.cell? ⟨w.heap.size, 5, none⟩ = some (.int .u8 0) := (blk_cell HKR2.out 5).trans rfl
         have rf5 := blk_frozen HKR2.out 5
         have rc6 : wr.cell? ⟨w.heap.size, 6, none⟩ = some (.int .u8 0) := (blk_cell HKR2.out 6).trans rfl
         have rf6 := blk_frozen HKR2.out 6
         have rc7 : wr.cell? ⟨w.heap.size, 7, none⟩ = some (.int .u8 0) := (blk_cell HKR2.out 7).trans rfl
         have rf7 := blk_frozen HKR2.out 7
         have ic0 : wr.cell? ⟨w.heap.size + 1, 0, none⟩ = some (.int .u8 (rd bs 0)) := (blk_cell HA.out 0).trans rfl
         have if0 := blk_frozen HA.out 0
         have ic1 : wr.cell? ⟨w.heap.size + 1, 1, none⟩ = some (.int .u8 (rd bs 1)) := (blk_cell HA.out 1).trans rfl
         have if1 := blk_frozen HA.out 1
         have ic2 : wr.cell? ⟨w.heap.size + 1, 2, none⟩ = some (.int .u8 (rd bs 2)) := (blk_cell HA.out 2).trans rfl
         have if2 := blk_frozen HA.out 2
         have ic3 : wr.cell? ⟨w.heap.size + 1, 3, none⟩ = some (.int .u8 (rd bs 3)) := (blk_cell HA.out 3).trans rfl
         have if3 := blk_frozen HA.out 3
         have ic4 : wr.cell? ⟨w.heap.size + 1, 4, none⟩ = some (.int .u8 (rd bs 4)) := (blk_cell HA.out 4).trans rfl
         have if4 := blk_frozen HA.out 4
         have ic5 : wr.cell? ⟨w.heap.size + 1, 5, none⟩ = some (.int .u8 (rd bs 5)) := (blk_cell HA.out 5).trans rfl
         have if5 := blk_frozen HA.out 5
         have ic6 : wr.cell? ⟨w.heap.size + 1, 6, none⟩ = some (.int .u8 (rd bs 6)) := (blk_cell HA.out 6).trans rfl
         have if6 := blk_frozen HA.out 6
         have ic7 : wr.cell? ⟨w.heap.size + 1, 7, none⟩ = some (.int .u8 (rd bs 7)) := (blk_cell HA.out 7).trans rfl
         have if7 := blk_frozen HA.out 7
         have HX2 : Aside0 (Chg (fun k => w.heap.size ≤ k) w1 wr) := ⟨HX.out.mono (fun i q => by have q' : i = w.heap.size + 1 := q; omega)⟩
         clear HX
         go_wp2
         rw [show (nums .u8 bs).toArray = idA bs 8 by unfold idA; rw [List.take_of_length_le (Nat.le_of_eq HLEN.out)]; simp, idA_all bs HLEN.out]
         have HS := set8 HKR2.out (.int .u8 (rd bs 0)) (.int .u8 (rd bs 1)) (.int .u8 (rd bs 2)) (.int .u8 (rd bs 3)) (.int .u8 (rd bs 4)) (.int .u8 (rd bs 5)) (.int .u8 (rd bs 6)) (.int .u8 (rd bs 7))
         refine bodyPost_ret (results_cell_row rfl _ _ w.heap.size 41 _ (0, 0) _ rfl HS.1 Try.underlying41 rfl (by kernel_rfl)) rfl ?_
         exact ⟨rfl, Mt1.cells HSZ.out.1 HGB.out HCH.out H.out (HX2.out.trans (HS.2.mono (fun i q => by have q' : i = w.heap.size := q; omega)))⟩
        | succ k =>
         have hj : (j : Int) < 8 := by have := HJ.out; omega
         have hC2 : Kd.C (Kd.int .u8) wr (some ⟨gb, off, none⟩) 8 bs := C_keep HC.out HGBW.out (HX.out.block _ (blk_lt HGBW.out) (by have := HGB.out; omega))
         have h0 : wr.cell? ⟨gb, off + j, none⟩ = some (.int .u8 (rd bs j)) := by
          have h0 := C_read hC2 j (by omega)
          rwa [add_off] at h0
         have hj9 : j < (idA bs j).size := by rw [idA_size bs HLEN.out j (by omega)]; omega
         obtain ⟨v0, h1⟩ : ∃ v0, wr.cell? ⟨w.heap.size + 1, j, none⟩ = some v0 := ⟨_, (blk_cell HA.out j).trans (Array.getElem?_eq_getElem hj9)⟩
         have h2 := blk_frozen HA.out j
         clear hC2 hj9
         go_wp2
         go_roundg k
         case measure => omega
         case rel => exact ⟨j + 1, by first | rfl | simp, ⟨by have := HJ.out; omega⟩, ⟨blk_put HA.out j _ (idA_put bs HLEN.out j (by omega))⟩, ⟨Chg.setCell HX.out (p := ⟨w.heap.size + 1, j, none⟩) (Or.inl rfl) _⟩⟩
 · have hl := HFL.out he
   subst hl
   have e : idR [] e0 = (List.replicate 8 0, [], e0) := by simp [idR, he]
   rw [e]
   have HT := Aside0.mk (mtake_fault1 gm gb A c [] e0 y0 y1 _ HK.out 8 he)
   clear e he
   go_enter Try.func60, Try.ntmps60
   go_wp2_with fail
   refine HT.out.mono ?_
   rintro e w1 ⟨rfl, hw⟩
   have h : Mt1 gm gb [] e0 y0 y1 ((w.alloc (.cells #[Value.int .u8 0, Value.int .u8 0, Value.int .u8 0, Value.int .u8 0, Value.int .u8 0, Value.int .u8 0, Value.int .u8 0, Value.int .u8 0] 41)).alloc (.cells #[Value.int .u8 0, Value.int .u8 0, Value.int .u8 0, Value.int .u8 0, Value.int .u8 0, Value.int .u8 0, Value.int .u8 0, Value.int .u8 0] 41)) w1 := by rw [hw]; exact Mt1.refl HK.out
   clear hw
   have H := Aside0.mk h
   have hkr : w1.heap[w.heap.size]? = some (.cells #[Value.int .u8 0, Value.int .u8 0, Value.int .u8 0, Value.int .u8 0, Value.int .u8 0, Value.int .u8 0, Value.int .u8 0, Value.int .u8 0] 41 (0, 0)) := (h.choose_spec.choose_spec.2.block _ (by rw [HSZ.out.2]; omega) (by have := HSZ.out.1; omega)).trans HKR.out
   have hki : w1.heap[w.heap.size + 1]? = some (.cells #[Value.int .u8 0, Value.int .u8 0, Value.int .u8 0, Value.int .u8 0, Value.int .u8 0, Value.int .u8 0, Value.int .u8 0, Value.int .u8 0] 41 (0, 0)) := (h.choose_spec.choose_spec.2.block _ (by rw [HSZ.out.2]; omega) (by have := HSZ.out.1; omega)).trans HKI.out
   have rc0 : w1.cell? ⟨w.heap.size, 0, none⟩ = some (.int .u8 0) := (blk_cell hkr 0).trans rfl
   have rf0 := blk_frozen hkr 0
   have rc1 : w1.cell? ⟨w.heap.size, 1, none⟩ = some (.int .u8 0) := (blk_cell hkr 1).trans rfl
   have rf1 := blk_frozen hkr 1
   have rc2 : w1.cell? ⟨w.heap.size, 2, none⟩ = some (.int .u8 0) := (blk_cell hkr 2).trans rfl
   have rf2 := blk_frozen hkr 2
   have rc3 : w1.cell? ⟨w.heap.size, 3, none⟩ = some (.int .u8 0) := (blk_cell hkr 3).trans rfl
   have rf3 := blk_frozen hkr 3
   have rc4 : w1.cell? ⟨w.heap.size, 4, none⟩ = some (.int .u8 0) := (blk_cell hkr 4).trans rfl
   have rf4 := blk_frozen hkr 4
   have rc5 : w1.cell? ⟨w.heap.size, 5, none⟩ = some (.int .u8 0) := (blk_cell hkr 5).trans rfl
   have rf5 := blk_frozen hkr 5
   have rc6 : w1.cell? ⟨w.heap.size, 6, none⟩ = some (.int .u8 0) := (blk_cell hkr 6).trans rfl
   have rf6 := blk_frozen hkr 6
   have rc7 : w1.cell? ⟨w.heap.size, 7, none⟩ = some (.int .u8 0) := (blk_cell hkr 7).trans rfl
   have rf7 := blk_frozen hkr 7
   have ic0 : w1.cell? ⟨w.heap.size + 1, 0, none⟩ = some (.int .u8 0) := (blk_cell hki 0).trans rfl
   have if0 := blk_frozen hki 0
   have ic1 : w1.cell? ⟨w.heap.size + 1, 1, none⟩ = some (.int .u8 0) := (blk_cell hki 1).trans rfl
   have if1 := blk_frozen hki 1
   have ic2 : w1.cell? ⟨w.heap.size + 1, 2, none⟩ = some (.int .u8 0) := (blk_cell hki 2).trans rfl
   have if2 := blk_frozen hki 2
   have ic3 : w1.cell? ⟨w.heap.size + 1, 3, none⟩ = some (.int .u8 0) := (blk_cell hki 3).trans rfl
   have if3 := blk_frozen hki 3
   have ic4 : w1.cell? ⟨w.heap.size + 1, 4, none⟩ = some (.int .u8 0) := (blk_cell hki 4).trans rfl
   have if4 := blk_frozen hki 4
   have ic5 : w1.cell? ⟨w.heap.size + 1, 5, none⟩ = some (.int .u8 0) := (blk_cell hki 5).trans rfl
   have if5 := blk_frozen hki 5
   have ic6 : w1.cell? ⟨w.heap.size + 1, 6, none⟩ = some (.int .u8 0) := (blk_cell hki 6).trans rfl
   have if6 := blk_frozen hki 6
   have ic7 : w1.cell? ⟨w.heap.size + 1, 7, none⟩ = some (.int .u8 0) := (blk_cell hki 7).trans rfl
   have if7 := blk_frozen hki 7
   have HKR1 := Aside0.mk hkr
   clear h hkr hki
   go_wp2
   have HS := set8 HKR1.out (.int .u8 0) (.int .u8 0) (.int .u8 0) (.int .u8 0) (.int .u8 0) (.int .u8 0) (.int .u8 0) (.int .u8 0)
   refine bodyPost_ret (results_cell_row rfl _ _ w.heap.size 41 _ (0, 0) _ rfl HS.1 Try.underlying41 rfl (by kernel_rfl)) rfl ?_
   exact ⟨rfl, Mt1.cells HSZ.out.1 HGB.out HCH.out H.out ((HS.2.mono (fun i q => by have q' : i = w.heap.size := q; omega)))⟩
set_option maxHeartbeats 8000000 in
set_option maxRecDepth 100000 in
theorem mpoint1 (gm gb : Nat) (A : Option Addr) (c : Nat) (l : List Int) (e0 : Int) (y0 y1 : Value) (w : World) (hm : M1 w gm gb A c l e0 y0 y1) (hby : IsBytes l) (hgb : gb < w.heap.size) :
 Calls Try.prog 61 #[.pointer (some ⟨gm, 2, none⟩)] w fun e w' => e = .returned (.agg #[.int .i16 (pointR l e0).1.1, .int .i16 (pointR l e0).1.2]) ∧ Mt1 gm gb (pointR l e0).2.1 (pointR l e0).2.2 y0 y1 w w' := by
 have q22 := eql_nil
 have HBY := Aside0.mk hby
 have HCH : Aside0 (Chg (· = gm) w (w.alloc (.cells #[Value.int .i16 0, Value.int .i16 0] 44))) := ⟨Chg.alloc (Chg.refl _ _) _⟩
 have HSZ : Aside0 (gm < w.heap.size ∧ (w.alloc (.cells #[Value.int .i16 0, Value.int .i16 0] 44)).heap.size = w.heap.size + 1) := ⟨blk_lt hm.blk, by rw [World.size_alloc]⟩
 have HGB := Aside0.mk hgb
 have HK : Aside0 (M1 (w.alloc (.cells #[Value.int .i16 0, Value.int .i16 0] 44)) gm gb A c l e0 y0 y1) := ⟨hm.keep (Chg.alloc (F := fun _ => False) (Chg.refl _ _) _) (fun q => q) (fun q => q)⟩
 have HFL := Aside0.mk hm.rest.flt
 clear hm hgb hby
 by_cases he : e0 = 0
 · subst he
   by_cases hl : l.length < 4
   · have e : pointR l 0 = ((0, 0), [], 20) := by
      match l, hl with
      | [], _ => rfl
      | [a], _ => rfl
      | [a, b], _ => rfl
      | [a, b, c], _ => rfl
     rw [e]
     clear e
     have HT := Aside0.mk (mtake_short1 gm gb A c l y0 y1 _ HK.out 4 (by omega))
     clear hl
     go_enter Try.func61, Try.ntmps61
     go_wp2_with fail
     refine HT.out.mono ?_
     rintro e w1 ⟨rfl, h⟩
     have H := Aside0.mk h
     have hk : w1.heap[w.heap.size]? = some (.cells #[Value.int .i16 0, Value.int .i16 0] 44 (0, 0)) := (h.choose_spec.choose_spec.2.block _ (by rw [HSZ.out.2]; omega) (by have := HSZ.out.1; omega)).trans (blk_new w _)
     have HK1 := Aside0.mk hk
     have rc0 : w1.cell? ⟨w.heap.size, 0, none⟩ = some (.int .i16 0) := (blk_cell hk 0).trans rfl
     have rf0 := blk_frozen hk 0
     have rc1 : w1.cell? ⟨w.heap.size, 1, none⟩ = some (.int .i16 0) := (blk_cell hk 1).trans rfl
     have rf1 := blk_frozen hk 1
     clear h hk
     go_wp2
     refine bodyPost_ret (results_cell_row rfl _ _ w.heap.size 44 _ (0, 0) _ rfl (blk_put (blk_put HK1.out 0 _ rfl) 1 _ rfl) Try.underlying44 rfl (by kernel_rfl)) rfl ?_
     exact ⟨rfl, Mt1.cells HSZ.out.1 HGB.out HCH.out H.out (Chg.setCell (F := fun k => w.heap.size ≤ k) (Chg.setCell (F := fun k => w.heap.size ≤ k) (Chg.refl _ _) (p := ⟨w.heap.size, 0, none⟩) (Or.inl (Nat.le_refl _)) _) (p := ⟨w.heap.size, 1, none⟩) (Or.inl (Nat.le_refl _)) _)⟩
   · rcases HK.out.rest.src with ⟨_, q, _⟩ | ⟨off, cs, t, rfl, _⟩
     · subst q; simp at hl
     · obtain ⟨a, b, c0, d, t, rfl⟩ : ∃ a b c d t, l = a :: b :: c :: d :: t := by
        match l, hl with
        | [], h => simp at h
        | [a], h => simp at h
        | [a, b], h => simp at h
        | [a, b, c], h => simp at h
        | a :: b :: c :: d :: t, _ => exact ⟨a, b, c, d, t, rfl⟩
       have e : pointR (a :: b :: c0 :: d :: t) 0 = ((pairI a b, pairI c0 d), t, 0) := rfl
       rw [e]
       clear e
       have HT := Aside0.mk (mtake1 gm gb off c (a :: b :: c0 :: d :: t) y0 y1 _ HK.out 4 (by omega))
       clear hl
       have ba := HBY.out a (by simp)
       have bb := HBY.out b (by simp)
       have bc := HBY.out c0 (by simp)
       have bd := HBY.out d (by simp)
       have HP1 := Aside0.mk (pair_sum a b ba.1 ba.2 bb.1 bb.2)
       have HP2 := Aside0.mk (pair_sum c0 d bc.1 bc.2 bd.1 bd.2)
       clear ba bb bc bd
       go_enter Try.func61, Try.ntmps61
       go_wp2_with fail
       refine HT.out.mono ?_
       rintro e w1 ⟨rfl, hC, h⟩
       have H := Aside0.mk h
       have hk : w1.heap[w.heap.size]? = some (.cells #[Value.int .i16 0, Value.int .i16 0] 44 (0, 0)) := (h.choose_spec.choose_spec.2.block _ (by rw [HSZ.out.2]; omega) (by have := HSZ.out.1; omega)).trans (blk_new w _)
       have HK1 := Aside0.mk hk
       have rc0 : w1.cell? ⟨w.heap.size, 0, none⟩ = some (.int .i16 0) := (blk_cell hk 0).trans rfl
       have rf0 := blk_frozen hk 0
       have rc1 : w1.cell? ⟨w.heap.size, 1, none⟩ = some (.int .i16 0) := (blk_cell hk 1).trans rfl
       have rf1 := blk_frozen hk 1
       have c0_ : w1.cell? ⟨gb, off, none⟩ = some (.int .u8 a) := C_read hC 0 (by omega)
       have c1_ : w1.cell? ⟨gb, off + 1, none⟩ = some (.int .u8 b) := C_read hC 1 (by omega)
       have c2_ : w1.cell? ⟨gb, off + 2, none⟩ = some (.int .u8 c0) := C_read hC 2 (by omega)
       have c3_ : w1.cell? ⟨gb, off + 3, none⟩ = some (.int .u8 d) := C_read hC 3 (by omega)
       clear h hk hC
       go_upto_region 4 with (fail)
       refine start_ (n := 24) (S := fun w' => w'.cell? ⟨gb, off, none⟩ = some (.int .u8 a) ∧ w'.cell? ⟨gb, off + 1, none⟩ = some (.int .u8 b) ∧ w'.cell? ⟨gb, off + 2, none⟩ = some (.int .u8 c0) ∧ w'.cell? ⟨gb, off + 3, none⟩ = some (.int .u8 d)) (ds := [23]) #[false, false, false, false, false, false, false, false, false, false, false, false, false, false, false, false, false, false, false, false, false, false, false, false] (by kernel_rfl) rfl rfl ⟨c0_, c1_, c2_, c3_⟩ (fun hHeld => ?_)
       refine pure_ (i := 0) (N := some 13) (v := ?_) (a' := ?_) #[true, false, false, false, false, false, false, false, false, false, false, false, false, false, false, false, false, false, false, false, false, false, false, false] rfl rfl (by kernel_rfl) (fun _ _ _ h => h) (Or.inl ⟨by rfl, ?_⟩) ?_ ?_
       rotate_left
       · intro w'
         go_simp
         with_reducible rfl
       rotate_left
       · simp only [Act.put, List.setIfInBounds_toArray, List.set_cons_zero, List.set_cons_succ]
         rfl
       refine pure_ (i := 1) (N := some 14) (v := ?_) (a' := ?_) #[true, true, false, false, false, false, false, false, false, false, false, false, false, false, false, false, false, false, false, false, false, false, false, false] rfl rfl (by kernel_rfl) (fun _ _ _ h => h) (Or.inl ⟨by rfl, ?_⟩) ?_ ?_
       rotate_left
       · intro w'
         go_simp
         with_reducible rfl
       rotate_left
       · simp only [Act.put, List.setIfInBounds_toArray, List.set_cons_zero, List.set_cons_succ]
         rfl
       refine take_ (i := 2) (N := some 15) (v := ?_) (a' := ?_) #[true, true, true, false, false, false, false, false, false, false, false, false, false, false, false, false, false, false, false, false, false, false, false, false] rfl rfl (by kernel_rfl) (fun _ _ _ h => h) (Or.inl ⟨by rfl, ?_⟩) hHeld ?_ ?_
       rotate_left
       · rintro w' ⟨s0, s1, s2, s3⟩
         go_simp
         with_reducible rfl
       rotate_left
       · simp only [Act.put, List.setIfInBounds_toArray, List.set_cons_zero, List.set_cons_succ]
         rfl
       refine pure_ (i := 3) (N := some 16) (v := ?_) (a' := ?_) #[true, true, true, true, false, false, false, false, false, false, false, false, false, false, false, false, false, false, false, false, false, false, false, false] rfl rfl (by kernel_rfl) (fun _ _ _ h => h) (Or.inl ⟨by rfl, ?_⟩) ?_ ?_
       rotate_left
       · intro w'
         go_simp
         with_reducible rfl
       rotate_left
       · simp only [Act.put, List.setIfInBounds_toArray, List.set_cons_zero, List.set_cons_succ]
         rfl
       refine pure_ (i := 4) (N := some 17) (v := ?_) (a' := ?_) #[true, true, true, true, true, false, false, false, false, false, false, false, false, false, false, false, false, false, false, false, false, false, false, false] rfl rfl (by kernel_rfl) (fun _ _ _ h => h) (Or.inl ⟨by rfl, ?_⟩) ?_ ?_
       rotate_left
       · intro w'
         go_simp
         with_reducible rfl
       rotate_left
       · simp only [Act.put, List.setIfInBounds_toArray, List.set_cons_zero, List.set_cons_succ]
         rfl
       refine pure_ (i := 5) (N := some 18) (v := ?_) (a' := ?_) #[true, true, true, true, true, true, false, false, false, false, false, false, false, false, false, false, false, false, false, false, false, false, false, false] rfl rfl (by kernel_rfl) (fun _ _ _ h => h) (Or.inl ⟨by rfl, ?_⟩) ?_ ?_
       rotate_left
       · intro w'
         go_simp
         with_reducible rfl
       rotate_left
       · simp only [Act.put, List.setIfInBounds_toArray, List.set_cons_zero, List.set_cons_succ]
         rfl
       refine pure_ (i := 6) (N := some 19) (v := ?_) (a' := ?_) #[true, true, true, true, true, true, true, false, false, false, false, false, false, false, false, false, false, false, false, false, false, false, false, false] rfl rfl (by kernel_rfl) (fun _ _ _ h => h) (Or.inl ⟨by rfl, ?_⟩) ?_ ?_
       rotate_left
       · intro w'
         go_simp
         with_reducible rfl
       rotate_left
       · simp only [Act.put, List.setIfInBounds_toArray, List.set_cons_zero, List.set_cons_succ]
         rfl
       refine take_ (i := 7) (N := some 20) (v := ?_) (a' := ?_) #[true, true, true, true, true, true, true, true, false, false, false, false, false, false, false, false, false, false, false, false, false, false, false, false] rfl rfl (by kernel_rfl) (fun _ _ _ h => h) (Or.inl ⟨by rfl, ?_⟩) hHeld ?_ ?_
       rotate_left
       · rintro w' ⟨s0, s1, s2, s3⟩
         go_simp
         with_reducible rfl
       rotate_left
       · simp only [Act.put, List.setIfInBounds_toArray, List.set_cons_zero, List.set_cons_succ]
         rfl
       refine pure_ (i := 8) (N := some 21) (v := ?_) (a' := ?_) #[true, true, true, true, true, true, true, true, true, false, false, false, false, false, false, false, false, false, false, false, false, false, false, false] rfl rfl (by kernel_rfl) (fun _ _ _ h => h) (Or.inl ⟨by rfl, ?_⟩) ?_ ?_
       rotate_left
       · intro w'
         go_simp
         with_reducible rfl
       rotate_left
       · simp only [Act.put, List.setIfInBounds_toArray, List.set_cons_zero, List.set_cons_succ]
         rfl
       refine pure_ (i := 9) (N := some 22) (v := ?_) (a' := ?_) #[true, true, true, true, true, true, true, true, true, true, false, false, false, false, false, false, false, false, false, false, false, false, false, false] rfl rfl (by kernel_rfl) (fun _ _ _ h => h) (Or.inl ⟨by rfl, ?_⟩) ?_ ?_
       rotate_left
       · intro w'
         go_simp
         with_reducible rfl
       rotate_left
       · simp only [Act.put, List.setIfInBounds_toArray, List.set_cons_zero, List.set_cons_succ]
         rfl
       refine pure_ (i := 10) (N := some 23) (v := ?_) (a' := ?_) #[true, true, true, true, true, true, true, true, true, true, true, false, false, false, false, false, false, false, false, false, false, false, false, false] rfl rfl (by kernel_rfl) (fun _ _ _ h => h) (Or.inl ⟨by rfl, ?_⟩) ?_ ?_
       rotate_left
       · intro w'
         go_simp
         with_reducible rfl
       rotate_left
       · simp only [Act.put, List.setIfInBounds_toArray, List.set_cons_zero, List.set_cons_succ]
         rfl
       refine pure_ (i := 11) (N := some 24) (v := ?_) (a' := ?_) #[true, true, true, true, true, true, true, true, true, true, true, true, false, false, false, false, false, false, false, false, false, false, false, false] rfl rfl (by kernel_rfl) (fun _ _ _ h => h) (Or.inl ⟨by rfl, ?_⟩) ?_ ?_
       rotate_left
       · intro w'
         go_simp
         with_reducible rfl
       rotate_left
       · simp only [Act.put, List.setIfInBounds_toArray, List.set_cons_zero, List.set_cons_succ]
         rfl
       refine pure_ (i := 12) (N := some 25) (v := ?_) (a' := ?_) #[true, true, true, true, true, true, true, true, true, true, true, true, true, false, false, false, false, false, false, false, false, false, false, false] rfl rfl (by kernel_rfl) (fun _ _ _ h => h) (Or.inl ⟨by rfl, ?_⟩) ?_ ?_
       rotate_left
       · intro w'
         go_simp
         with_reducible rfl
       rotate_left
       · simp only [Act.put, List.setIfInBounds_toArray, List.set_cons_zero, List.set_cons_succ]
         rfl
       refine take_ (i := 13) (N := some 26) (v := ?_) (a' := ?_) #[true, true, true, true, true, true, true, true, true, true, true, true, true, true, false, false, false, false, false, false, false, false, false, false] rfl rfl (by kernel_rfl) (fun _ _ _ h => h) (Or.inl ⟨by rfl, ?_⟩) hHeld ?_ ?_
       rotate_left
       · rintro w' ⟨s0, s1, s2, s3⟩
         go_simp
         with_reducible rfl
       rotate_left
       · simp only [Act.put, List.setIfInBounds_toArray, List.set_cons_zero, List.set_cons_succ]
         rfl
       refine pure_ (i := 14) (N := some 27) (v := ?_) (a' := ?_) #[true, true, true, true, true, true, true, true, true, true, true, true, true, true, true, false, false, false, false, false, false, false, false, false] rfl rfl (by kernel_rfl) (fun _ _ _ h => h) (Or.inl ⟨by rfl, ?_⟩) ?_ ?_
       rotate_left
       · intro w'
         go_simp
         with_reducible rfl
       rotate_left
       · simp only [Act.put, List.setIfInBounds_toArray, List.set_cons_zero, List.set_cons_succ]
         rfl
       refine pure_ (i := 15) (N := some 28) (v := ?_) (a' := ?_) #[true, true, true, true, true, true, true, true, true, true, true, true, true, true, true, true, false, false, false, false, false, false, false, false] rfl rfl (by kernel_rfl) (fun _ _ _ h => h) (Or.inl ⟨by rfl, ?_⟩) ?_ ?_
       rotate_left
       · intro w'
         go_simp
         with_reducible rfl
       rotate_left
       · simp only [Act.put, List.setIfInBounds_toArray, List.set_cons_zero, List.set_cons_succ]
         rfl
       refine pure_ (i := 16) (N := some 29) (v := ?_) (a' := ?_) #[true, true, true, true, true, true, true, true, true, true, true, true, true, true, true, true, true, false, false, false, false, false, false, false] rfl rfl (by kernel_rfl) (fun _ _ _ h => h) (Or.inl ⟨by rfl, ?_⟩) ?_ ?_
       rotate_left
       · intro w'
         go_simp
         with_reducible rfl
       rotate_left
       · simp only [Act.put, List.setIfInBounds_toArray, List.set_cons_zero, List.set_cons_succ]
         rfl
       refine pure_ (i := 17) (N := some 30) (v := ?_) (a' := ?_) #[true, true, true, true, true, true, true, true, true, true, true, true, true, true, true, true, true, true, false, false, false, false, false, false] rfl rfl (by kernel_rfl) (fun _ _ _ h => h) (Or.inl ⟨by rfl, ?_⟩) ?_ ?_
       rotate_left
       · intro w'
         go_simp
         with_reducible rfl
       rotate_left
       · simp only [Act.put, List.setIfInBounds_toArray, List.set_cons_zero, List.set_cons_succ]
         rfl
       refine take_ (i := 18) (N := some 31) (v := ?_) (a' := ?_) #[true, true, true, true, true, true, true, true, true, true, true, true, true, true, true, true, true, true, true, false, false, false, false, false] rfl rfl (by kernel_rfl) (fun _ _ _ h => h) (Or.inl ⟨by rfl, ?_⟩) hHeld ?_ ?_
       rotate_left
       · rintro w' ⟨s0, s1, s2, s3⟩
         go_simp
         with_reducible rfl
       rotate_left
       · simp only [Act.put, List.setIfInBounds_toArray, List.set_cons_zero, List.set_cons_succ]
         rfl
       refine pure_ (i := 19) (N := some 32) (v := ?_) (a' := ?_) #[true, true, true, true, true, true, true, true, true, true, true, true, true, true, true, true, true, true, true, true, false, false, false, false] rfl rfl (by kernel_rfl) (fun _ _ _ h => h) (Or.inl ⟨by rfl, ?_⟩) ?_ ?_
       rotate_left
       · intro w'
         go_simp
         with_reducible rfl
       rotate_left
       · simp only [Act.put, List.setIfInBounds_toArray, List.set_cons_zero, List.set_cons_succ]
         rfl
       refine pure_ (i := 20) (N := some 33) (v := ?_) (a' := ?_) #[true, true, true, true, true, true, true, true, true, true, true, true, true, true, true, true, true, true, true, true, true, false, false, false] rfl rfl (by kernel_rfl) (fun _ _ _ h => h) (Or.inl ⟨by rfl, ?_⟩) ?_ ?_
       rotate_left
       · intro w'
         go_simp
         with_reducible rfl
       rotate_left
       · simp only [Act.put, List.setIfInBounds_toArray, List.set_cons_zero, List.set_cons_succ]
         rfl
       refine pure_ (i := 21) (N := some 34) (v := ?_) (a' := ?_) #[true, true, true, true, true, true, true, true, true, true, true, true, true, true, true, true, true, true, true, true, true, true, false, false] rfl rfl (by kernel_rfl) (fun _ _ _ h => h) (Or.inl ⟨by rfl, ?_⟩) ?_ ?_
       rotate_left
       · intro w'
         go_simp
         with_reducible rfl
       rotate_left
       · simp only [Act.put, List.setIfInBounds_toArray, List.set_cons_zero, List.set_cons_succ]
         rfl
       refine pure_ (i := 22) (N := some 35) (v := ?_) (a' := ?_) #[true, true, true, true, true, true, true, true, true, true, true, true, true, true, true, true, true, true, true, true, true, true, true, false] rfl rfl (by kernel_rfl) (fun _ _ _ h => h) (Or.inl ⟨by rfl, ?_⟩) ?_ ?_
       rotate_left
       · intro w'
         go_simp
         with_reducible rfl
       rotate_left
       · simp only [Act.put, List.setIfInBounds_toArray, List.set_cons_zero, List.set_cons_succ]
         rfl
       refine last_ (i := 23) (N := none) #[true, true, true, true, true, true, true, true, true, true, true, true, true, true, true, true, true, true, true, true, true, true, true, true] rfl rfl (by kernel_rfl) (by decide) (fun K hK => ?_)
       refine skip_ (w1 := ?_) (by rfl) rfl ?_ ?_
       rotate_left
       · go_simp
         rfl
       refine hK.out _ _ ?_
       clear hK K
       refine done_ (by kernel_rfl) ?_
       go_wp2
       refine bodyPost_ret (results_cell_row rfl _ _ w.heap.size 44 _ (0, 0) _ rfl (blk_put (blk_put (blk_drew HK1.out) 0 _ rfl) 1 _ rfl) Try.underlying44 rfl (by kernel_rfl)) rfl ?_
       rw [HP1.out, HP2.out]
       exact ⟨rfl, Mt1.cells HSZ.out.1 HGB.out HCH.out H.out (Chg.drew (Chg.setCell (F := fun k => w.heap.size ≤ k) (Chg.setCell (F := fun k => w.heap.size ≤ k) (Chg.refl _ _) (p := ⟨w.heap.size, 0, none⟩) (Or.inl (Nat.le_refl _)) _) (p := ⟨w.heap.size, 1, none⟩) (Or.inl (Nat.le_refl _)) _))⟩
 · have hl := HFL.out he
   subst hl
   have e : pointR [] e0 = ((0, 0), [], e0) := by simp [pointR, he]
   rw [e]
   have HT := Aside0.mk (mtake_fault1 gm gb A c [] e0 y0 y1 _ HK.out 4 he)
   clear e he
   go_enter Try.func61, Try.ntmps61
   go_wp2_with fail
   refine HT.out.mono ?_
   rintro e w1 ⟨rfl, hw⟩
   have h : Mt1 gm gb [] e0 y0 y1 (w.alloc (.cells #[Value.int .i16 0, Value.int .i16 0] 44)) w1 := by rw [hw]; exact Mt1.refl HK.out
   clear hw
   have H := Aside0.mk h
   have hk : w1.heap[w.heap.size]? = some (.cells #[Value.int .i16 0, Value.int .i16 0] 44 (0, 0)) := (h.choose_spec.choose_spec.2.block _ (by rw [HSZ.out.2]; omega) (by have := HSZ.out.1; omega)).trans (blk_new w _)
   have HK1 := Aside0.mk hk
   have rc0 : w1.cell? ⟨w.heap.size, 0, none⟩ = some (.int .i16 0) := (blk_cell hk 0).trans rfl
   have rf0 := blk_frozen hk 0
   have rc1 : w1.cell? ⟨w.heap.size, 1, none⟩ = some (.int .i16 0) := (blk_cell hk 1).trans rfl
   have rf1 := blk_frozen hk 1
   clear h hk
   go_wp2
   refine bodyPost_ret (results_cell_row rfl _ _ w.heap.size 44 _ (0, 0) _ rfl (blk_put (blk_put HK1.out 0 _ rfl) 1 _ rfl) Try.underlying44 rfl (by kernel_rfl)) rfl ?_
   exact ⟨rfl, Mt1.cells HSZ.out.1 HGB.out HCH.out H.out (Chg.setCell (F := fun k => w.heap.size ≤ k) (Chg.setCell (F := fun k => w.heap.size ≤ k) (Chg.refl _ _) (p := ⟨w.heap.size, 0, none⟩) (Or.inl (Nat.le_refl _)) _) (p := ⟨w.heap.size, 1, none⟩) (Or.inl (Nat.le_refl _)) _)⟩
set_option maxHeartbeats 8000000 in
set_option maxRecDepth 100000 in
theorem mtext1 (gm gb : Nat) (A : Option Addr) (c : Nat) (l : List Int) (e0 : Int) (y0 y1 : Value) (w : World) (hm : M1 w gm gb A c l e0 y0 y1) (hby : IsBytes l) (most : Int) (hmost : most ≤ 9223372036854775807) :
 Calls Try.prog 62 #[.pointer (some ⟨gm, 2, none⟩), .int .i64 most] w fun e w' => e = .returned (.string (strOfNums (textR most l e0).1)) ∧ Mt1 gm gb (textR most l e0).2.1 (textR most l e0).2.2 y0 y1 w w' := by
 have HM := Aside0.mk hm
 have HBY := Aside0.mk hby
 clear hm hby
 have hemp : strOfNums [] = ByteArray.empty := rfl
 by_cases hmo : most < 0
 · have e : textR most l e0 = ([], [], failE 1 e0) := by simp [textR, hmo]
   rw [e, hemp]
   clear e
   go_enter Try.func62, Try.ntmps62
   go_wp2_with fail
   refine (mfail1 gm gb A c l e0 y0 y1 w HM.out 1 (by decide)).mono ?_
   rintro e w1 ⟨rfl, h⟩
   have H := Aside0.mk h
   clear h
   go_wp2
   go_ret
   exact ⟨rfl, H.out⟩
 · obtain ⟨M, hM⟩ := Int.eq_ofNat_of_zero_le (show 0 ≤ most by omega)
   subst hM
   have HV := Aside0.mk (mvar1 gm gb A c l e0 y0 y1 w HM.out HBY.out)
   have HNB := Aside0.mk (varR_bound l HBY.out e0)
   have HBAD := Aside0.mk (varR_bad l e0)
   have e : textR M l e0 = (if (M : Int) < (varR l e0).1 then ([], [], failE 3 (varR l e0).2.2) else if (varR l e0).2.1.length < (varR l e0).1 then ([], [], failE 20 (varR l e0).2.2) else nextR (varR l e0).1 (varR l e0).2.1 (varR l e0).2.2) := by unfold textR; rw [if_neg hmo]
   rw [e]
   clear e
   generalize varR l e0 = res at HV HNB HBAD ⊢
   obtain ⟨n, l1, e1⟩ := res
   have hw1 : IntKind.u64.wrap (M : Int) = (M : Int) := wrap_u64_nonneg (by omega) (by omega)
   by_cases he1 : e1 = 0
   · subst he1
     by_cases h1 : (M : Int) < n
     · simp only [h1, if_true, hemp]
       go_enter Try.func62, Try.ntmps62
       go_wp2_with fail
       refine HV.out.mono ?_
       rintro e w1 ⟨rfl, A1, c1, hm1, hch⟩
       have HM1 := Aside0.mk hm1
       have HCH := Aside0.mk hch
       have hc0 : w1.cell? ⟨gm, 2, none⟩ = some (.slice A1 l1.length c1) := (blk_cell hm1.blk 2).trans rfl
       have hc1 : w1.cell? ⟨gm, 3, none⟩ = some (.int .i64 0) := (blk_cell hm1.blk 3).trans rfl
       have hlen : l1.length ≤ 140737488355328 := hm1.rest.len
       clear hm1 hch
       go_wp2_with fail
       refine (mfail1 gm gb A1 c1 l1 0 y0 y1 w1 HM1.out 3 (by decide)).mono ?_
       rintro e w2 ⟨rfl, h⟩
       have H := Aside0.mk h
       clear h
       go_wp2
       go_ret
       exact ⟨rfl, Mt1.trans HCH.out H.out⟩
     · simp only [h1, if_false]
       by_cases h2 : l1.length < n
       · simp only [h2, if_true, hemp]
         have h3 : (l1.length : Int) < (n : Int) := by omega
         go_enter Try.func62, Try.ntmps62
         go_wp2_with fail
         refine HV.out.mono ?_
         rintro e w1 ⟨rfl, A1, c1, hm1, hch⟩
         have HM1 := Aside0.mk hm1
         have HCH := Aside0.mk hch
         have hc0 : w1.cell? ⟨gm, 2, none⟩ = some (.slice A1 l1.length c1) := (blk_cell hm1.blk 2).trans rfl
         have hc1 : w1.cell? ⟨gm, 3, none⟩ = some (.int .i64 0) := (blk_cell hm1.blk 3).trans rfl
         have hlen : l1.length ≤ 140737488355328 := hm1.rest.len
         clear hm1 hch
         have hw2 : IntKind.u64.wrap (l1.length : Int) = (l1.length : Int) := wrap_u64_nonneg (by omega) (by omega)
         go_wp2_with fail
         refine (mfail1 gm gb A1 c1 l1 0 y0 y1 w1 HM1.out 20 (by decide)).mono ?_
         rintro e w2 ⟨rfl, h⟩
         have H := Aside0.mk h
         clear h
         go_wp2
         go_ret
         exact ⟨rfl, Mt1.trans HCH.out H.out⟩
       · simp only [h2, if_false]
         have e : nextR n l1 0 = (l1.take n, l1.drop n, 0) := by simp [nextR, h2]
         rw [e]
         clear e
         have h3 : ¬ (l1.length : Int) < (n : Int) := by omega
         have HN := Aside0.mk h2
         clear h2
         go_enter Try.func62, Try.ntmps62
         go_wp2_with fail
         refine HV.out.mono ?_
         rintro e w1 ⟨rfl, A1, c1, hm1, hch⟩
         have HM1 := Aside0.mk hm1
         have HCH := Aside0.mk hch
         have hc0 : w1.cell? ⟨gm, 2, none⟩ = some (.slice A1 l1.length c1) := (blk_cell hm1.blk 2).trans rfl
         have hc1 : w1.cell? ⟨gm, 3, none⟩ = some (.int .i64 0) := (blk_cell hm1.blk 3).trans rfl
         have hlen : l1.length ≤ 140737488355328 := hm1.rest.len
         clear hm1 hch
         have hw2 : IntKind.u64.wrap (l1.length : Int) = (l1.length : Int) := wrap_u64_nonneg (by omega) (by omega)
         have hw3 : wrap64 (n : Int) = (n : Int) := by have := HN.out; unfold wrap64; omega
         rcases HM1.out.rest.src with ⟨rfl, rfl, rfl⟩ | ⟨off, cs, t, rfl, _⟩
         · have hn0 : n = 0 := by have := HN.out; simp at this; omega
           subst hn0
           have HT := Aside0.mk (mtake_nil1 gm gb y0 y1 w1 HM1.out)
           go_wp2_with fail
           refine HT.out.mono ?_
           rintro e w2 ⟨rfl, h⟩
           have hcv : (convert 22 9 (.slice none 0 0)).run Try.prog w2 = .ok (.string ByteArray.empty) w2 := conv_text (bs := []) 0 (Kd.C_nil (Kd.int .u8) w2)
           have H := Aside0.mk h
           clear h
           go_wp2
           go_ret
           exact ⟨rfl, Mt1.trans HCH.out H.out⟩
         · have HT := Aside0.mk (mtake1 gm gb off c1 l1 y0 y1 w1 HM1.out n (by have := HN.out; omega))
           obtain ⟨bs, hbs⟩ : ∃ bs, l1.take n = bs := ⟨_, rfl⟩
           have HLEN : Aside0 (n = bs.length) := ⟨by rw [← hbs]; have := HN.out; simp; omega⟩
           rw [hbs] at HT
           have HBS := Aside0.mk hbs
           clear hbs
           go_wp2_with fail
           refine HT.out.mono ?_
           rintro e w2 ⟨rfl, hC, h⟩
           rw [HLEN.out] at hC
           have hcv := conv_text c1 hC
           rw [← HLEN.out] at hcv
           have H := Aside0.mk h
           clear h hC
           go_wp2
           go_ret
           rw [HBS.out]
           exact ⟨rfl, Mt1.trans HCH.out H.out⟩
   · have hn := HBAD.out he1
     have hn2 : n = 0 := hn
     subst hn2
     have hnb2 : (e1 != 0) = true := by simpa using he1
     have e : (if (M : Int) < ((0 : Nat) : Int) then (([], [], failE 3 e1) : List Int × List Int × Int) else if l1.length < 0 then ([], [], failE 20 e1) else nextR 0 l1 e1) = ([], [], e1) := by
      rw [if_neg (by omega), if_neg (by omega)]
      simp [nextR, he1]
     simp only [e, hemp]
     have HE1 := Aside0.mk he1
     clear e he1 hn
     go_enter Try.func62, Try.ntmps62
     go_wp2_with fail
     refine HV.out.mono ?_
     rintro e w1 ⟨rfl, A1, c1, hm1, hch⟩
     have HM1 := Aside0.mk hm1
     have HCH := Aside0.mk hch
     have hc0 : w1.cell? ⟨gm, 2, none⟩ = some (.slice A1 l1.length c1) := (blk_cell hm1.blk 2).trans rfl
     have hc1 : w1.cell? ⟨gm, 3, none⟩ = some (.int .i64 e1) := (blk_cell hm1.blk 3).trans rfl
     have hlen : l1.length ≤ 140737488355328 := hm1.rest.len
     clear hm1 hch
     have hl0 := HM1.out.rest.flt HE1.out
     subst hl0
     go_wp2
     go_ret
     exact ⟨rfl, A1, c1, HM1.out, HCH.out⟩
end Go.Proofs.Ytjijmikpoenbcaa.Codec
/- Two readers and the document's two: what stays apart. Conditions: those that stand in each theorem. Written in this session. -/
namespace Go.Proofs.Ytjijmikpoenbcaa.Codec
open Go.RowKit Go.Proofs.YtjijmikpoenbcaaW.PrintWords Go.Proofs.YtjijmikpoenbcaaW.PrintLast Go.Proofs.YtjijmikpoenbcaaW.PrintMore
set_option linter.unusedVariables false
set_option linter.unusedSimpArgs false
structure RS (w : World) (B D r0 r1 gm gb0 gb1 : Nat) (va : Value) (la : List Int) (ea : Int) (vb : Value) (lb : List Int) (eb : Int) (ma : List Int) (fa : Int) (mb : List Int) (fb : Int) : Prop where
 R0 : RAt w B r0 va la ea
 R1 : RAt w B r1 vb lb eb
 f0 : ∀ k, rfp r0 va k → k < D
 f1 : ∀ k, rfp r1 vb k → k < D
 ap : ∀ k, rfp r0 va k → ¬ rfp r1 vb k
 M : ∃ A0 c0 A1 c1, w.heap[gm]? = some (.cells #[.slice A0 ma.length c0, .int .i64 fa, .slice A1 mb.length c1, .int .i64 fb] 69 (0, 0)) ∧ Rest w gm gb0 A0 c0 ma fa ∧ Rest w gm gb1 A1 c1 mb fb
 n : D ≤ gm ∧ D ≤ gb0 ∧ D ≤ gb1 ∧ gb0 < w.heap.size ∧ gb1 < w.heap.size
 y0 : IsBytes la
 y1 : IsBytes lb
 z0 : IsBytes ma
 z1 : IsBytes mb
theorem RS.keep {w w' : World} {B D r0 r1 gm gb0 gb1 : Nat} {va vb : Value} {la lb ma mb : List Int} {ea eb fa fb : Int} {F : Nat → Prop} (h : RS w B D r0 r1 gm gb0 gb1 va la ea vb lb eb ma fa mb fb) (hc : Chg F w w') (h0 : ∀ k, k < D → ¬ F k) (hm : ¬ F gm) (hb0 : ¬ F gb0) (hb1 : ¬ F gb1) : RS w' B D r0 r1 gm gb0 gb1 va la ea vb lb eb ma fa mb fb := by
 obtain ⟨A0, c0, A1, c1, k1, k2, k3⟩ := h.M
 exact ⟨h.R0.keep hc (fun k a => h0 k (h.f0 k a)), h.R1.keep hc (fun k a => h0 k (h.f1 k a)), h.f0, h.f1, h.ap, ⟨A0, c0, A1, c1, hc.heap k1 hm, k2.keep1 (fun q _ => hc.block _ q hb0), k3.keep1 (fun q _ => hc.block _ q hb1)⟩, ⟨h.n.1, h.n.2.1, h.n.2.2.1, Nat.lt_of_lt_of_le h.n.2.2.2.1 hc.size, Nat.lt_of_lt_of_le h.n.2.2.2.2 hc.size⟩, h.y0, h.y1, h.z0, h.z1⟩
theorem RS.gmlt {w : World} {B D r0 r1 gm gb0 gb1 : Nat} {va vb : Value} {la lb ma mb : List Int} {ea eb fa fb : Int} (h : RS w B D r0 r1 gm gb0 gb1 va la ea vb lb eb ma fa mb fb) : gm < w.heap.size := by
 obtain ⟨A0, c0, A1, c1, k1, k2, k3⟩ := h.M
 exact blk_lt k1
theorem RS.below {w w' : World} {B D r0 r1 gm gb0 gb1 : Nat} {va vb : Value} {la lb ma mb : List Int} {ea eb fa fb : Int} (h : RS w B D r0 r1 gm gb0 gb1 va la ea vb lb eb ma fa mb fb) (hb : Below w.heap.size w w') : RS w' B D r0 r1 gm gb0 gb1 va la ea vb lb eb ma fa mb fb :=
 h.keep (F := fun _ => False) (Chg.of_below hb) (fun _ _ q => q) (fun q => q) (fun q => q) (fun q => q)
/-- a block of the asker's own, made behind the document's readers -/
theorem RS.cell {w w' : World} {B D r0 r1 gm gb0 gb1 g : Nat} {va vb : Value} {la lb ma mb : List Int} {ea eb fa fb : Int} (h : RS w B D r0 r1 gm gb0 gb1 va la ea vb lb eb ma fa mb fb) (hc : Chg (· = g) w w') (hD : D ≤ g) (hn : g ≠ gm ∧ g ≠ gb0 ∧ g ≠ gb1) : RS w' B D r0 r1 gm gb0 gb1 va la ea vb lb eb ma fa mb fb :=
 h.keep hc (fun k a e => by have e' : k = g := e; omega) (fun e => hn.1 e.symm) (fun e => hn.2.1 e.symm) (fun e => hn.2.2 e.symm)
theorem RS.took0 {w w' : World} {B D r0 r1 gm gb0 gb1 : Nat} {va vb : Value} {la lb ma mb l' : List Int} {ea eb fa fb e' : Int} (h : RS w B D r0 r1 gm gb0 gb1 va la ea vb lb eb ma fa mb fb) (ht : Took B r0 va l' e' w w') (hl : IsBytes l') : ∃ va', RS w' B D r0 r1 gm gb0 gb1 va' l' e' vb lb eb ma fa mb fb ∧ Chg (· = r0) w w' := by
 obtain ⟨va', k1, k2, k3⟩ := ht
 obtain ⟨A0, c0, A1, c1, q1, q2, q3⟩ := h.M
 have old : ∀ k, rfp r0 va' k → rfp r0 va k := fun k hk => by
  rcases hk with hk | hk
  · exact Or.inl hk
  · exact Or.inr (k2 k hk.symm).symm
 have hr : r0 < D := h.f0 r0 (Or.inl rfl)
 exact ⟨va', ⟨k1, h.R1.keep k3 (fun k a e => h.ap k (Or.inl e) a), fun k a => h.f0 k (old k a), h.f1, fun k a => h.ap k (old k a), ⟨A0, c0, A1, c1, k3.heap q1 (by have := h.n.1; omega), q2.keep1 (fun q _ => k3.block _ q (by have := h.n.2.1; omega)), q3.keep1 (fun q _ => k3.block _ q (by have := h.n.2.2.1; omega))⟩, ⟨h.n.1, h.n.2.1, h.n.2.2.1, Nat.lt_of_lt_of_le h.n.2.2.2.1 k3.size, Nat.lt_of_lt_of_le h.n.2.2.2.2 k3.size⟩, hl, h.y1, h.z0, h.z1⟩, k3⟩
theorem RS.took1 {w w' : World} {B D r0 r1 gm gb0 gb1 : Nat} {va vb : Value} {la lb ma mb l' : List Int} {ea eb fa fb e' : Int} (h : RS w B D r0 r1 gm gb0 gb1 va la ea vb lb eb ma fa mb fb) (ht : Took B r1 vb l' e' w w') (hl : IsBytes l') : ∃ vb', RS w' B D r0 r1 gm gb0 gb1 va la ea vb' l' e' ma fa mb fb ∧ Chg (· = r1) w w' := by
 obtain ⟨vb', k1, k2, k3⟩ := ht
 obtain ⟨A0, c0, A1, c1, q1, q2, q3⟩ := h.M
 have old : ∀ k, rfp r1 vb' k → rfp r1 vb k := fun k hk => by
  rcases hk with hk | hk
  · exact Or.inl hk
  · exact Or.inr (k2 k hk.symm).symm
 have hr : r1 < D := h.f1 r1 (Or.inl rfl)
 exact ⟨vb', ⟨h.R0.keep k3 (fun k a e => h.ap k a (Or.inl e)), k1, h.f0, fun k a => h.f1 k (old k a), fun k a b => h.ap k a (old k b), ⟨A0, c0, A1, c1, k3.heap q1 (by have := h.n.1; omega), q2.keep1 (fun q _ => k3.block _ q (by have := h.n.2.1; omega)), q3.keep1 (fun q _ => k3.block _ q (by have := h.n.2.2.1; omega))⟩, ⟨h.n.1, h.n.2.1, h.n.2.2.1, Nat.lt_of_lt_of_le h.n.2.2.2.1 k3.size, Nat.lt_of_lt_of_le h.n.2.2.2.2 k3.size⟩, h.y0, hl, h.z0, h.z1⟩, k3⟩
theorem RS.m0 {w : World} {B D r0 r1 gm gb0 gb1 : Nat} {va vb : Value} {la lb ma mb : List Int} {ea eb fa fb : Int} (h : RS w B D r0 r1 gm gb0 gb1 va la ea vb lb eb ma fa mb fb) : ∃ A0 c0 y0 y1, M0 w gm gb0 A0 c0 ma fa y0 y1 ∧ ∀ w' l' e', IsBytes l' → Mt0 gm gb0 l' e' y0 y1 w w' → RS w' B D r0 r1 gm gb0 gb1 va la ea vb lb eb l' e' mb fb ∧ Chg (· = gm) w w' := by
 obtain ⟨A0, c0, A1, c1, q1, q2, q3⟩ := h.M
 refine ⟨A0, c0, _, _, ⟨q1, q2⟩, fun w' l' e' hl ⟨A, c, hm, hc⟩ => ⟨⟨h.R0.keep hc (fun k a e => ?_), h.R1.keep hc (fun k a e => ?_), h.f0, h.f1, h.ap, ⟨A, c, A1, c1, hm.blk, hm.rest, q3.keep1 (fun q hn => hc.block _ q hn)⟩, ⟨h.n.1, h.n.2.1, h.n.2.2.1, Nat.lt_of_lt_of_le h.n.2.2.2.1 hc.size, Nat.lt_of_lt_of_le h.n.2.2.2.2 hc.size⟩, h.y0, h.y1, hl, h.z1⟩, hc⟩⟩
 · have e' : k = gm := e
   have := h.f0 k a; have := h.n.1; omega
 · have e' : k = gm := e
   have := h.f1 k a; have := h.n.1; omega
theorem RS.m1 {w : World} {B D r0 r1 gm gb0 gb1 : Nat} {va vb : Value} {la lb ma mb : List Int} {ea eb fa fb : Int} (h : RS w B D r0 r1 gm gb0 gb1 va la ea vb lb eb ma fa mb fb) : ∃ A1 c1 y0 y1, M1 w gm gb1 A1 c1 mb fb y0 y1 ∧ ∀ w' l' e', IsBytes l' → Mt1 gm gb1 l' e' y0 y1 w w' → RS w' B D r0 r1 gm gb0 gb1 va la ea vb lb eb ma fa l' e' ∧ Chg (· = gm) w w' := by
 obtain ⟨A0, c0, A1, c1, q1, q2, q3⟩ := h.M
 refine ⟨A1, c1, _, _, ⟨q1, q3⟩, fun w' l' e' hl ⟨A, c, hm, hc⟩ => ⟨⟨h.R0.keep hc (fun k a e => ?_), h.R1.keep hc (fun k a e => ?_), h.f0, h.f1, h.ap, ⟨A0, c0, A, c, hm.blk, q2.keep1 (fun q hn => hc.block _ q hn), hm.rest⟩, ⟨h.n.1, h.n.2.1, h.n.2.2.1, Nat.lt_of_lt_of_le h.n.2.2.2.1 hc.size, Nat.lt_of_lt_of_le h.n.2.2.2.2 hc.size⟩, h.y0, h.y1, h.z0, hl⟩, hc⟩⟩
 · have e' : k = gm := e
   have := h.f0 k a; have := h.n.1; omega
 · have e' : k = gm := e
   have := h.f1 k a; have := h.n.1; omega
end Go.Proofs.Ytjijmikpoenbcaa.Codec
/- Helpers for the walk of CodecReads: rows of one's own, lent bytes, texts that stay. Conditions: those that stand in each theorem. Written in this session. -/
namespace Go.Proofs.Ytjijmikpoenbcaa.Codec
open Go.RowKit Go.Proofs.YtjijmikpoenbcaaW.PrintWords Go.Proofs.YtjijmikpoenbcaaW.PrintLast Go.Proofs.YtjijmikpoenbcaaW.PrintMore Go.Proofs.Ytjijmikpoenbcaa.Q
set_option linter.unusedVariables false
set_option linter.unusedSimpArgs false
theorem rl1 (w : World) (a b : Obj) : ((w.alloc a).alloc b).heap[w.heap.size + 1]? = some b := by
 have := blk_new (w.alloc a) b
 rwa [World.size_alloc] at this
theorem lent_lt {w : World} {base g c : Nat} {l : List Int} (h : Lent w base g c l) : g < w.heap.size := own_lt h.own g rfl
theorem lent_keep {F : Nat → Prop} {w w' : World} {base g c : Nat} {l : List Int} (h : Lent w base g c l) (hc : Chg F w w') (hF : ¬ F g) : Lent w' base g c l :=
 ⟨own_move h.own (fun k hk => by
   have e : g = k := by simpa [Value.ownBlock] using hk
   subst e
   exact hc.block g (lent_lt h) hF), h.ge⟩
theorem lent_below {w w' : World} {base g c : Nat} {l : List Int} (h : Lent w base g c l) (hb : Below w.heap.size w w') : Lent w' base g c l := lent_keep (F := fun _ => False) h (Chg.of_below hb) (fun q => q)
theorem app_own {ops : Array Oper} {rest : List Oper} {o : Oper} {a : Act} {Q : Exit → Act → World → Prop} {w0 w : World} (hgd : o.guard = none) (s x : Operand)
 (ho : o.op = .call { callee := .builtin .append, args := #[s, x], argTypes := #[22, 22] }) (v : Value) (ps : List Int) (A : Option Addr) (c : Nat)
 (hs : a.eval s = v) (hx : a.eval x = .slice A ps.length c) (HO : w.ownsRow w0.heap.size 5 1 v 0 (nums .u8 [])) (HC : Kd.C (Kd.int .u8) w A ps.length ps) (HB : Below w0.heap.size w0 w) (hl : ps.length ≤ 140737488355328)
 (h : ∀ v' w', w'.ownsRow w0.heap.size 5 1 v' ps.length (nums .u8 ps) → w.grownBy w' v.ownBlock → (v'.ownBlock = v.ownBlock ∨ ∃ b, v'.ownBlock = some b ∧ w.heap.size ≤ b) → Below w0.heap.size w0 w' → wpList Try.prog ops Q rest (a.put o.dst v') w') :
 wpList Try.prog ops Q (o :: rest) a w := by
 refine Kd.R_append_rows (Kd.int .u8) (w0 := w0) w0.heap.size hgd s x 22 5 (.int .u8 0) 1 ho Try.underlying22 u8info rfl (by decide) (by omega) v ([] : List Int) ps A ps.length c (fun _ => True) (fun _ => False) hs hx (Kd.R_of_own HO (fun _ _ => trivial)) HC (fun _ _ h => h) (fun _ h => h.elim) (fun _ _ => trivial) HB HB.size (by simpa using hl) ?_
 intro v1 w1 h1 h2 h3 h4
 rw [List.nil_append] at h1
 exact h v1 w1 (own_int h1) h3 h4 h2
theorem own_empty {w : World} {base g : Nat} (h : w.heap[g]? = some (.cells #[] 5 (0, 0))) (hb : base ≤ g) : w.ownsRow base 5 1 (.slice (some ⟨g, 0, none⟩) 0 0) 0 (nums .u8 []) :=
 ⟨rfl, Or.inr ⟨g, 0, #[], rfl, hb, h, Nat.le_refl _, by unfold maxLen; omega, rfl, rfl⟩⟩
/-- a row of one's own is what a document's reader has left -/
theorem rest_own {w : World} {base gm : Nat} {v : Value} {l : List Int} (h : w.ownsRow base 5 1 v l.length (nums .u8 l)) (hg : ∀ k, v.ownBlock = some k → k ≠ gm) (hlen : l.length ≤ 140737488355328) (g0 : Nat) : ∃ gb A c, v = .slice A l.length c ∧ Rest w gm gb A c l 0 ∧ (v.ownBlock = some gb ∨ gb = g0) := by
 obtain ⟨A, c, e, hc, hC⟩ := own_C h
 subst e
 rcases h.2 with ⟨e, hn⟩ | ⟨g, cap, cur, e, hb, hh, h1, h2, _⟩
 · have hl : l = [] := List.eq_nil_of_length_eq_zero hn
   subst hl
   cases e
   exact ⟨g0, none, 0, rfl, rest_nil _ _ _ _, Or.inr rfl⟩
 · cases e
   exact ⟨g, _, _, rfl, ⟨hC, h1, by unfold maxLen at h2; omega, hlen, Or.inr ⟨0, _, _, rfl, hg g rfl, hh⟩, fun q => absurd rfl q⟩, Or.inl rfl⟩
theorem lent_cells {w : World} {base g c : Nat} {l : List Int} (h : Lent w base g c l) : ∃ cs, w.heap[g]? = some (.cells cs 5 (0, 0)) ∧ ∀ k, k < l.length → ∃ x, cs[k]? = some (.int .u8 x) := by
 rcases h.own.2 with ⟨e, _⟩ | ⟨g', cap, cur, e, _, hh, _⟩
 · cases e
 · cases e
   refine ⟨cur, hh, fun k hk => ⟨rd l k, ?_⟩⟩
   have h1 := C_read h.reads k hk
   rw [add_off, Nat.zero_add] at h1
   exact (blk_cell hh k).symm.trans h1
theorem cell_lt {w : World} {a : Addr} {v : Value} (h : w.cell? a = some v) : a.block < w.heap.size := by
 apply Classical.byContradiction
 intro hn
 have e : w.heap[a.block]? = none := Array.getElem?_eq_none (by omega)
 simp [World.cell?, e] at h
theorem C_lt {w : World} {A : Option Addr} {l : List Int} (h : Kd.C (Kd.int .u8) w A l.length l) : l = [] ∨ ∃ a, A = some a ∧ a.block < w.heap.size := by
 by_cases hl : l = []
 · exact Or.inl hl
 · right
   have hp : 0 < l.length := by
    cases l with
    | nil => exact absurd rfl hl
    | cons x t => simp
   obtain ⟨a, ha, _⟩ := h.2.2 hp
   subst ha
   exact ⟨a, rfl, cell_lt (C_read h 0 hp)⟩
theorem C_stay {w w' : World} {A : Option Addr} {l : List Int} (h : Kd.C (Kd.int .u8) w A l.length l) (hb : ∀ a, A = some a → a.block < w.heap.size → l ≠ [] → w'.heap[a.block]? = w.heap[a.block]?) : Kd.C (Kd.int .u8) w' A l.length l := by
 rcases C_lt h with e | ⟨a, e, hlt⟩
 · subst e
   exact ⟨rfl, Nat.zero_le _, fun hp => absurd hp (by simp)⟩
 · subst e
   by_cases hl : l = []
   · subst hl
     exact ⟨rfl, Nat.zero_le _, fun hp => absurd hp (by simp)⟩
   · have e := hb a rfl hlt hl
     obtain ⟨g, off, k⟩ := a
     by_cases hk : k = none
     · subst hk
       exact C_chg (F := fun _ => False) h e
     · refine ⟨h.1, h.2.1, fun hp => ?_⟩
       obtain ⟨a, ha, hk⟩ := h.2.2 hp
       cases ha
       refine ⟨_, rfl, fun j p hj => ?_⟩
       obtain ⟨us, k1, k2, k3⟩ := hk j p hj
       refine ⟨us, k1, k2, fun i u hu => ?_⟩
       rw [<- k3 i u hu]
       unfold World.cell?
       have hbl : ∀ n, ((⟨g, off, k⟩ : Addr).add n).block = g := fun n => by unfold Addr.add; split <;> rfl
       rw [hbl, e]
/-- the text of a thing that was read: behind the block T, not in gt -/
structure Tx (w : World) (T : Nat) (A : Option Addr) (c : Nat) (l : List Int) : Prop where
 hc : Kd.C (Kd.int .u8) w A l.length l
 le : l.length ≤ c
 ge : ∀ a, A = some a → T ≤ a.block
theorem Tx.below {w w' : World} {T : Nat} {A : Option Addr} {c : Nat} {l : List Int} (h : Tx w T A c l) (hb : Below w.heap.size w w') : Tx w' T A c l :=
 ⟨C_stay h.hc (fun a _ hlt _ => hb.block _ hlt), h.le, h.ge⟩
theorem Tx.chg {w w' : World} {T g : Nat} {A : Option Addr} {c : Nat} {l : List Int} (h : Tx w T A c l) (hc : Chg (· = g) w w') (hg : g < T) : Tx w' T A c l :=
 ⟨C_stay h.hc (fun a ha hlt _ => hc.block _ hlt (fun e => by have e' : a.block = g := e; have := h.ge a ha; omega)), h.le, h.ge⟩
theorem Tx.chg2 {w w' : World} {T g : Nat} {A : Option Addr} {c : Nat} {l : List Int} (h : Tx w T A c l) (hc : Chg (· = g) w w') (hg : l = [] ∨ ∀ a, A = some a → a.block ≠ g) : Tx w' T A c l :=
 ⟨C_stay h.hc (fun a ha hlt hl => hc.block _ hlt (fun e => by
  have e' : a.block = g := e
  rcases hg with q | q
  · exact hl q
  · exact q a ha e')), h.le, h.ge⟩
theorem tx_dead (w : World) (T c : Nat) (A : Option Addr) (h : ∀ a, A = some a → T ≤ a.block) : Tx w T A c [] := ⟨⟨rfl, Nat.zero_le _, fun hp => absurd hp (by simp)⟩, Nat.zero_le _, h⟩
theorem RS.start {Y : World} {B D r0 r1 gm b8 b9 : Nat} {v0 v1 : Value} {one two : List Int} {A8 A9 : Option Addr} {c8 c9 : Nat} (hR0 : RAt Y B r0 v0 one 0) (hR1 : RAt Y B r1 v1 two 0) (f0 : ∀ k, rfp r0 v0 k → k < D) (f1 : ∀ k, rfp r1 v1 k → k < D) (ap : ∀ k, rfp r0 v0 k → ¬ rfp r1 v1 k)
 (hM : Y.heap[gm]? = some (.cells #[.slice A8 one.length c8, .int .i64 0, .slice A9 two.length c9, .int .i64 0] 69 (0, 0))) (h8 : Y.ownsRow b8 5 1 (.slice A8 one.length c8) one.length (nums .u8 one)) (k8 : ∀ k, (Value.slice A8 one.length c8).ownBlock = some k → gm < k) (h9 : Y.ownsRow b9 5 1 (.slice A9 two.length c9) two.length (nums .u8 two)) (k9 : ∀ k, (Value.slice A9 two.length c9).ownBlock = some k → gm < k)
 (hD : D ≤ gm) (hz : gm + 1 < Y.heap.size) (l8 : one.length ≤ 140737488355328) (l9 : two.length ≤ 140737488355328) (y0 : IsBytes one) (y1 : IsBytes two) :
 ∃ gb0 gb1, RS Y B D r0 r1 gm gb0 gb1 v0 one 0 v1 two 0 one 0 two 0 := by
 obtain ⟨gb0, A, c, e, hr, ho⟩ := rest_own (gm := gm) h8 (fun k hk => by have := k8 k hk; omega) l8 (gm + 1)
 cases e
 obtain ⟨gb1, A', c', e, hr', ho'⟩ := rest_own (gm := gm) h9 (fun k hk => by have := k9 k hk; omega) l9 (gm + 1)
 cases e
 have b0 : gm < gb0 ∧ gb0 < Y.heap.size := by
  rcases ho with q | q
  · exact ⟨k8 _ q, own_lt h8 _ q⟩
  · omega
 have b1 : gm < gb1 ∧ gb1 < Y.heap.size := by
  rcases ho' with q | q
  · exact ⟨k9 _ q, own_lt h9 _ q⟩
  · omega
 exact ⟨gb0, gb1, hR0, hR1, f0, f1, ap, ⟨_, _, _, _, hM, hr, hr'⟩, ⟨hD, by omega, by omega, b0.2, b1.2⟩, y0, y1, y0, y1⟩
theorem tx_none (w : World) (T c : Nat) (A : Option Addr) (h : ∀ a, A = some a → T ≤ a.block) : Tx w T A c [] := tx_dead w T c A h
theorem round_nr (a n : Int) (hn : 0 < n) (hn2 : n ≤ 9223372036854775807) : ∃ t, cabstandlaw02_round.f a n = some t ∧ 0 ≤ t ∧ t < n := by
 unfold cabstandlaw02_round.f
 have h1 := Int.tmod_lt_of_pos a hn
 have h2 := Int.lt_tmod_of_pos a hn
 rw [if_neg (by omega)]
 by_cases h : Int.tmod a n < 0
 · rw [if_pos h]
   refine ⟨_, rfl, ?_⟩
   unfold wrap64
   omega
 · rw [if_neg h]
   exact ⟨_, rfl, by omega, h1⟩
theorem chg_row {w : World} {g : Nat} {t : TypeId} {old cs : Array Value} (hg : w.heap[g]? = some (.cells old t (0, 0))) : (w.setRow g cs).heap[g]? = some (.cells cs t (0, 0)) ∧ Chg (· = g) w (w.setRow g cs) :=
 ⟨setRow_heap w g old cs t (0, 0) hg, ⟨rfl, rfl, rfl, by simp [World.setRow], fun k hk hf => setRow_other w g k cs (fun e => hf e)⟩⟩
/-- a store of a whole variable of several cells, in a region that draws its order -/
theorem rowstore_ {P : Program} {Q : Exit → Act → World → Prop} {ops : Array Oper} {oi : Oper} {a : Act} {w : World} {K : Act → World → Prop} (hw : Region.wanted oi (yielded ops a.tmps) = true) (hN : oi.dst = none) (ty : TypeId) (x y : Operand) (ho : oi.op = .store ty x y)
 (g : Nat) (cells : Array Value) (hx : a.eval x = .pointer (some ⟨g, 0, none⟩)) (hy : a.eval y = .agg cells) (t : TypeId) (old : Array Value) (hg : w.heap[g]? = some (.cells old t (0, 0))) (hi : (P.info? ty).map (·.size) = some cells.size)
 (hold : old.size = cells.size) (h1 : cells.all (·.oneCell') = true) (h : K a (w.setRow g cells)) : if Region.wanted oi (yielded ops a.tmps) = true then Oper.wp P oi a w K Q else K (a.put none undef) w := by
 rw [if_pos hw]
 refine wp_store_row ty x y ho g cells hx hy t old hg hi hold h1 ?_
 rw [hN]
 exact h
theorem infoTh : (Try.prog.info? 46).map (·.size) = some 16 := by kernel_rfl
end Go.Proofs.Ytjijmikpoenbcaa.Codec
/- What 'took' answers of the kind text. Written by wip/gen/tookt.py. -/
namespace Go.Proofs.Ytjijmikpoenbcaa.Codec
open Go.RowKit Go.Proofs.YtjijmikpoenbcaaW.PrintWords Go.Proofs.YtjijmikpoenbcaaW.PrintLast Go.Proofs.YtjijmikpoenbcaaW.PrintMore
set_option linter.unusedVariables false
set_option maxHeartbeats 8000000 in
set_option maxRecDepth 100000 in
theorem took_textP (base g : Nat) (v : Value) (l : List Int) (hby : IsBytes l) (e0 : Int) (w : World) (hr : RAt w base g v l e0) (who kind n i wd b0 b1 b2 b3 b4 b5 b6 b7 x y : Int) (hwd : wd ≤ 9223372036854775807) (u : Value) (A : Option Addr) (m c : Nat) (hu : u = .slice A m c) (hk : kindOf kind = 6) :
 Calls Try.prog 34 #[.pointer (some ⟨g, 0, none⟩), .agg (thing who kind n i wd b0 b1 b2 b3 b4 b5 b6 b7 x y u)] w fun e w' => ∃ v', e = .returned (.agg (thing 0 6 0 0 0 0 0 0 0 0 0 0 0 0 0 v')) ∧ Took base g v (textR wd l e0).2.1 (textR wd l e0).2.2 w w' ∧ ∃ A' c', v' = .slice A' (textR wd l e0).1.length c' ∧ (textR wd l e0).1.length ≤ c' ∧ Kd.C (Kd.int .u8) w' A' (textR wd l e0).1.length (textR wd l e0).1 ∧ (∀ a, A' = some a → w.heap.size ≤ a.block) := by
 subst hu
 have HR := Aside0.mk hr
 have HK := Aside0.mk hk
 have HBY := Aside0.mk hby
 have HWD := Aside0.mk hwd
 have HTL : Aside0 ((textR wd l e0).1.length ≤ 140737488355328) := ⟨Nat.le_trans textR_len hr.len⟩
 clear hr hk hby hwd
 unfold thing
 go_enter Try.func34, Try.ntmps34
 go_wp2_with fail
 refine (round7_calls kind _).mono ?_
 rintro e w1 ⟨rfl, rfl⟩
 rw [HK.out]
 have HCH : Aside0 (Chg (fun _ => False) w (((w.alloc (.cells #[Value.int .i64 who, Value.int .i64 kind, Value.int .u64 n, Value.int .i64 i, Value.int .i64 wd, Value.int .u8 b0, Value.int .u8 b1, Value.int .u8 b2, Value.int .u8 b3, Value.int .u8 b4, Value.int .u8 b5, Value.int .u8 b6, Value.int .u8 b7, Value.int .i16 x, Value.int .i16 y, .slice A m c] 46)).alloc (.cells #[Value.int .i64 0, Value.int .i64 0, Value.int .u64 0, Value.int .i64 0, Value.int .i64 0, Value.int .u8 0, Value.int .u8 0, Value.int .u8 0, Value.int .u8 0, Value.int .u8 0, Value.int .u8 0, Value.int .u8 0, Value.int .u8 0, Value.int .i16 0, Value.int .i16 0, Value.slice none 0 0] 46)).alloc (.cells #[Value.int .i64 0, Value.int .i64 6, Value.int .u64 0, Value.int .i64 0, Value.int .i64 0, Value.int .u8 0, Value.int .u8 0, Value.int .u8 0, Value.int .u8 0, Value.int .u8 0, Value.int .u8 0, Value.int .u8 0, Value.int .u8 0, Value.int .i16 0, Value.int .i16 0, Value.slice none 0 0] 46))) := ⟨Chg.alloc (Chg.alloc (Chg.alloc (Chg.refl _ _) _) _) _⟩
 have hx0 := blk_new ((w.alloc (.cells #[Value.int .i64 who, Value.int .i64 kind, Value.int .u64 n, Value.int .i64 i, Value.int .i64 wd, Value.int .u8 b0, Value.int .u8 b1, Value.int .u8 b2, Value.int .u8 b3, Value.int .u8 b4, Value.int .u8 b5, Value.int .u8 b6, Value.int .u8 b7, Value.int .i16 x, Value.int .i16 y, .slice A m c] 46)).alloc (.cells #[Value.int .i64 0, Value.int .i64 0, Value.int .u64 0, Value.int .i64 0, Value.int .i64 0, Value.int .u8 0, Value.int .u8 0, Value.int .u8 0, Value.int .u8 0, Value.int .u8 0, Value.int .u8 0, Value.int .u8 0, Value.int .u8 0, Value.int .i16 0, Value.int .i16 0, Value.slice none 0 0] 46)) (.cells #[Value.int .i64 0, Value.int .i64 6, Value.int .u64 0, Value.int .i64 0, Value.int .i64 0, Value.int .u8 0, Value.int .u8 0, Value.int .u8 0, Value.int .u8 0, Value.int .u8 0, Value.int .u8 0, Value.int .u8 0, Value.int .u8 0, Value.int .i16 0, Value.int .i16 0, Value.slice none 0 0] 46)
 have hr0 := blk_alloc (blk_new (w.alloc (.cells #[Value.int .i64 who, Value.int .i64 kind, Value.int .u64 n, Value.int .i64 i, Value.int .i64 wd, Value.int .u8 b0, Value.int .u8 b1, Value.int .u8 b2, Value.int .u8 b3, Value.int .u8 b4, Value.int .u8 b5, Value.int .u8 b6, Value.int .u8 b7, Value.int .i16 x, Value.int .i16 y, .slice A m c] 46)) (.cells #[Value.int .i64 0, Value.int .i64 0, Value.int .u64 0, Value.int .i64 0, Value.int .i64 0, Value.int .u8 0, Value.int .u8 0, Value.int .u8 0, Value.int .u8 0, Value.int .u8 0, Value.int .u8 0, Value.int .u8 0, Value.int .u8 0, Value.int .i16 0, Value.int .i16 0, Value.slice none 0 0] 46)) (.cells #[Value.int .i64 0, Value.int .i64 6, Value.int .u64 0, Value.int .i64 0, Value.int .i64 0, Value.int .u8 0, Value.int .u8 0, Value.int .u8 0, Value.int .u8 0, Value.int .u8 0, Value.int .u8 0, Value.int .u8 0, Value.int .u8 0, Value.int .i16 0, Value.int .i16 0, Value.slice none 0 0] 46)
 rw [World.size_alloc, World.size_alloc] at hx0
 rw [World.size_alloc] at hr0
 have HX0 := Aside0.mk hx0
 have HR0 := Aside0.mk hr0
 clear hx0 hr0
 have HT0 := Aside0.mk (blk_alloc (blk_alloc (blk_new w (.cells #[Value.int .i64 who, Value.int .i64 kind, Value.int .u64 n, Value.int .i64 i, Value.int .i64 wd, Value.int .u8 b0, Value.int .u8 b1, Value.int .u8 b2, Value.int .u8 b3, Value.int .u8 b4, Value.int .u8 b5, Value.int .u8 b6, Value.int .u8 b7, Value.int .i16 x, Value.int .i16 y, .slice A m c] 46)) (.cells #[Value.int .i64 0, Value.int .i64 0, Value.int .u64 0, Value.int .i64 0, Value.int .i64 0, Value.int .u8 0, Value.int .u8 0, Value.int .u8 0, Value.int .u8 0, Value.int .u8 0, Value.int .u8 0, Value.int .u8 0, Value.int .u8 0, Value.int .i16 0, Value.int .i16 0, Value.slice none 0 0] 46)) (.cells #[Value.int .i64 0, Value.int .i64 6, Value.int .u64 0, Value.int .i64 0, Value.int .i64 0, Value.int .u8 0, Value.int .u8 0, Value.int .u8 0, Value.int .u8 0, Value.int .u8 0, Value.int .u8 0, Value.int .u8 0, Value.int .u8 0, Value.int .i16 0, Value.int .i16 0, Value.slice none 0 0] 46))
 have HKR := Aside0.mk (HR.out.keep HCH.out (fun _ _ h => h))
 go_wp2_with fail
 refine (rText_calls base g v l HBY.out e0 wd HWD.out _ HKR.out).mono ?_
 rintro e w2 ⟨rfl, h⟩
 have H := Aside0.mk h
 have hg : g < w.heap.size := blk_lt HR.out.blk
 have kx := (h.choose_spec.2.2).heap HX0.out (by omega)
 have kr := (h.choose_spec.2.2).heap HR0.out (by omega)
 have kt := (h.choose_spec.2.2).heap HT0.out (by omega)
 clear hg h
 have hsz : w.heap.size + 3 ≤ w2.heap.size := by have := H.out.choose_spec.2.2.size; rw [World.size_alloc, World.size_alloc, World.size_alloc] at this; omega
 have kt := (Lib.bytesWorld_at_old w2 5 (strOfNums (textR wd l e0).1) _ (by omega)).trans kt
 have kx := (Lib.bytesWorld_at_old w2 5 (strOfNums (textR wd l e0).1) _ (by omega)).trans kx
 have kr := (Lib.bytesWorld_at_old w2 5 (strOfNums (textR wd l e0).1) _ (by omega)).trans kr
 have htb := text_bytes w2 (textR wd l e0).1 (textR_bytes HBY.out) (by have := HTL.out; omega)
 have HTB := Aside0.mk htb
 clear htb
 have HSZ := Aside0.mk hsz
 clear hsz
 have kb := fun W => print_bytes (P := Try.prog) 9 22 5 Try.underlying9 Try.underlying22 Try.underlying5 (strOfNums (textR wd l e0).1) W
 obtain ⟨rc0, rc1, rc2, rc3, rc4, rc5, rc6, rc7, rc8, rc9, rc10, rc11, rc12, rc13, rc14, rc15⟩ := cells16 kr
 obtain ⟨rf0, rf1, rf2, rf3, rf4, rf5, rf6, rf7, rf8, rf9, rf10, rf11, rf12, rf13, rf14, rf15⟩ := frozen16 kr
 obtain ⟨xc0, xc1, xc2, xc3, xc4, xc5, xc6, xc7, xc8, xc9, xc10, xc11, xc12, xc13, xc14, xc15⟩ := cells16 kx
 obtain ⟨xf0, xf1, xf2, xf3, xf4, xf5, xf6, xf7, xf8, xf9, xf10, xf11, xf12, xf13, xf14, xf15⟩ := frozen16 kx
 have KX := Aside0.mk kx
 have KR := Aside0.mk kr
 clear kx kr kt
 go_wp2
 have HS := set16 (blk_far KR.out (p := ⟨w.heap.size + 1 + 1, 15, none⟩) (by show w.heap.size + 1 ≠ w.heap.size + 1 + 1; omega) (.slice (some ⟨w2.heap.size, 0, none⟩) (strOfNums (textR wd l e0).1).size (grownCap w2 (strOfNums (textR wd l e0).1).size 0 5))) (.int .i64 0) (.int .i64 6) (.int .u64 0) (.int .i64 0) (.int .i64 0) (.int .u8 0) (.int .u8 0) (.int .u8 0) (.int .u8 0) (.int .u8 0) (.int .u8 0) (.int .u8 0) (.int .u8 0) (.int .i16 0) (.int .i16 0) (.slice (some ⟨w2.heap.size, 0, none⟩) (strOfNums (textR wd l e0).1).size (grownCap w2 (strOfNums (textR wd l e0).1).size 0 5))
 have HC2 : Chg (fun k => w.heap.size ≤ k) (Lib.bytesWorld w2 5 (strOfNums (textR wd l e0).1)) ((Lib.bytesWorld w2 5 (strOfNums (textR wd l e0).1)).setCell ⟨w.heap.size + 1 + 1, 15, none⟩ (.slice (some ⟨w2.heap.size, 0, none⟩) (strOfNums (textR wd l e0).1).size (grownCap w2 (strOfNums (textR wd l e0).1).size 0 5))) := (Chg.setCell (F := fun k => w.heap.size ≤ k) (Chg.refl _ _) (p := ⟨w.heap.size + 1 + 1, 15, none⟩) (Or.inl (by show w.heap.size ≤ w.heap.size + 1 + 1; omega)) _)
 refine bodyPost_ret (results_cell_row rfl _ _ (w.heap.size + 1) 46 _ (0, 0) _ rfl HS.1 Try.underlying46 rfl (by kernel_rfl)) rfl ?_
 have HC0 : Chg (fun k => w.heap.size ≤ k) w2 (Lib.bytesWorld w2 5 (strOfNums (textR wd l e0).1)) := Chg.of_below (bytes_below (Below.refl _ _) (Nat.le_refl _) _ _)
 have HC3 := HC2.then HS.2 (fun i hi => Or.inl (by have q : i = w.heap.size + 1 := hi; omega))
 refine ⟨_, rfl, Took.three HR.out HCH.out H.out (HC0.trans HC3), _, _, by rw [strOfNums_size], ?_, ?_, ?_⟩
 · exact grownCap_ge _ _ _ _
 · refine C_chg (F := fun _ => False) HTB.out ?_
   have h1 := HSZ.out
   have hnb := Lib.bytesWorld_size w2 5 (strOfNums (textR wd l e0).1)
   have HCx : Chg (fun k => k = w.heap.size + 1 + 1) (Lib.bytesWorld w2 5 (strOfNums (textR wd l e0).1)) ((Lib.bytesWorld w2 5 (strOfNums (textR wd l e0).1)).setCell ⟨w.heap.size + 1 + 1, 15, none⟩ (.slice (some ⟨w2.heap.size, 0, none⟩) (strOfNums (textR wd l e0).1).size (grownCap w2 (strOfNums (textR wd l e0).1).size 0 5))) := Chg.setCell (F := fun k => k = w.heap.size + 1 + 1) (Chg.refl _ _) (p := ⟨w.heap.size + 1 + 1, 15, none⟩) (Or.inl rfl) _
   rw [HS.2.block w2.heap.size (by have := HCx.size; omega) (by omega)]
   exact HCx.block w2.heap.size (by omega) (by omega)
 · intro a ha
   cases ha
   have := HSZ.out
   show w.heap.size ≤ w2.heap.size
   omega
theorem took_allP (base g : Nat) (v : Value) (l : List Int) (hby : IsBytes l) (e0 : Int) (w : World) (hr : RAt w base g v l e0) (t : Th) (hw : t.w ≤ 9223372036854775807) (A : Option Addr) (c : Nat) :
 Calls Try.prog 34 #[.pointer (some ⟨g, 0, none⟩), .agg (thingOf t A c)] w fun e w' => ∃ A' c', e = .returned (.agg (thingOf (tookR t l e0).1 A' c')) ∧ Took base g v (tookR t l e0).2.1 (tookR t l e0).2.2 w w' ∧ (tookR t l e0).1.t.length ≤ c' ∧ Kd.C (Kd.int .u8) w' A' (tookR t l e0).1.t.length (tookR t l e0).1.t ∧ (∀ a, A' = some a → w.heap.size ≤ a.block) := by
 rcases kind_cases t.kind with h | h | h | h | h | h | h
 · have e1 : tookR t l e0 = ((0, 0, (byteR l e0).1, 0, 0, zero8, (0, 0), []), (byteR l e0).2) := by simp [tookR, h]
   rw [e1]
   refine (took_byte base g v l hby e0 w hr _ _ _ _ _ _ _ _ _ _ _ _ _ _ _ _ _ _ _ rfl h).mono ?_
   rintro e w' ⟨rfl, k⟩
   exact ⟨none, 0, rfl, k, Nat.le_refl _, C_none, fun a ha => by cases ha⟩
 · have e1 : tookR t l e0 = ((0, 1, (fixedR t.w l e0).1, 0, t.w, zero8, (0, 0), []), (fixedR t.w l e0).2) := by simp [tookR, h]
   rw [e1]
   refine (took_fixed base g v l hby e0 w hr _ _ _ _ _ _ _ _ _ _ _ _ _ _ _ _ _ _ _ rfl h).mono ?_
   rintro e w' ⟨rfl, k⟩
   exact ⟨none, 0, rfl, k, Nat.le_refl _, C_none, fun a ha => by cases ha⟩
 · have e1 : tookR t l e0 = ((0, 2, ((varR l e0).1 : Int), 0, 0, zero8, (0, 0), []), (varR l e0).2) := by simp [tookR, h]
   rw [e1]
   refine (took_var base g v l hby e0 w hr _ _ _ _ _ _ _ _ _ _ _ _ _ _ _ _ _ _ _ rfl h).mono ?_
   rintro e w' ⟨rfl, k⟩
   exact ⟨none, 0, rfl, k, Nat.le_refl _, C_none, fun a ha => by cases ha⟩
 · have e1 : tookR t l e0 = ((0, 3, 0, backI (varR l e0).1, 0, zero8, (0, 0), []), (varR l e0).2) := by simp [tookR, h]
   rw [e1]
   refine (took_int base g v l hby e0 w hr _ _ _ _ _ _ _ _ _ _ _ _ _ _ _ _ _ _ _ rfl h).mono ?_
   rintro e w' ⟨rfl, k⟩
   exact ⟨none, 0, rfl, k, Nat.le_refl _, C_none, fun a ha => by cases ha⟩
 · have e1 : tookR t l e0 = ((0, 4, 0, 0, 0, (idR l e0).1, (0, 0), []), (idR l e0).2) := by simp [tookR, h]
   rw [e1]
   refine (took_id base g v l hby e0 w hr _ _ _ _ _ _ _ _ _ _ _ _ _ _ _ _ _ _ _ rfl h).mono ?_
   rintro e w' ⟨rfl, k⟩
   exact ⟨none, 0, rfl, k, Nat.le_refl _, C_none, fun a ha => by cases ha⟩
 · have e1 : tookR t l e0 = ((0, 5, 0, 0, 0, zero8, (pointR l e0).1, []), (pointR l e0).2) := by simp [tookR, h]
   rw [e1]
   refine (took_point base g v l hby e0 w hr _ _ _ _ _ _ _ _ _ _ _ _ _ _ _ _ _ _ _ rfl h).mono ?_
   rintro e w' ⟨rfl, k⟩
   exact ⟨none, 0, rfl, k, Nat.le_refl _, C_none, fun a ha => by cases ha⟩
 · have e1 : tookR t l e0 = ((0, 6, 0, 0, 0, zero8, (0, 0), (textR t.w l e0).1), (textR t.w l e0).2) := by simp [tookR, h]
   rw [e1]
   refine (took_textP base g v l hby e0 w hr _ _ _ _ _ _ _ _ _ _ _ _ _ _ _ hw _ _ _ _ rfl h).mono ?_
   rintro e w' ⟨v', rfl, k, A', c', rfl, k1, k2, k3⟩
   exact ⟨A', c', rfl, k, k1, k2, k3⟩

end Go.Proofs.Ytjijmikpoenbcaa.Codec
