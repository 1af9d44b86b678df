/- What 'took' answers of the kind id. Written by wip/gen/took.py. -/
import Derived.Test.YtjijmikpoenbcaaCodecTook
namespace Go.Proofs.Ytjijmikpoenbcaa.Codec
open Go.RowKit Go.Proofs.YtjijmikpoenbcaaW.PrintWords Go.Proofs.YtjijmikpoenbcaaW.PrintLast Go.Proofs.YtjijmikpoenbcaaW.PrintMore
set_option linter.unusedVariables false
theorem idR_eight (l : List Int) (e : Int) : ∃ i0 i1 i2 i3 i4 i5 i6 i7, (idR l e).1 = [i0, i1, i2, i3, i4, i5, i6, i7] := by
  have h8 : (idR l e).1.length = 8 := by
    unfold idR
    split
    · split
      · rfl
      · rename_i h
        simp
        omega
    · rfl
  match hl : (idR l e).1, h8 with
  | [i0, i1, i2, i3, i4, i5, i6, i7], _ => exact ⟨i0, i1, i2, i3, i4, i5, i6, i7, rfl⟩
theorem nums_eight (i0 i1 i2 i3 i4 i5 i6 i7 : Int) : (nums .u8 [i0, i1, i2, i3, i4, i5, i6, i7]).toArray = #[.int .u8 i0, .int .u8 i1, .int .u8 i2, .int .u8 i3, .int .u8 i4, .int .u8 i5, .int .u8 i6, .int .u8 i7] := rfl
set_option maxHeartbeats 8000000 in
set_option maxRecDepth 100000 in
theorem took_id (base g : Nat) (v : Value) (l : List Int) (hby : IsBytes l) (e0 : Int) (w : World) (hr : RAt w base g v l e0) (who kind n i wd b0 b1 b2 b3 b4 b5 b6 b7 x y : Int) (u : Value) (A : Option Addr) (m c : Nat) (hu : u = .slice A m c) (hk : kindOf kind = 4) :
    Calls Try.prog 34 #[.pointer (some ⟨g, 0, none⟩), .agg (thing who kind n i wd b0 b1 b2 b3 b4 b5 b6 b7 x y u)] w fun e w' => e = .returned (.agg (thing 0 4 0 0 0 (rd (idR l e0).1 0) (rd (idR l e0).1 1) (rd (idR l e0).1 2) (rd (idR l e0).1 3) (rd (idR l e0).1 4) (rd (idR l e0).1 5) (rd (idR l e0).1 6) (rd (idR l e0).1 7) 0 0 (.slice none 0 0))) ∧ Took base g v (idR l e0).2.1 (idR l e0).2.2 w w' := by
  subst hu
  have HR := Aside0.mk hr
  have HK := Aside0.mk hk
  have HBY := Aside0.mk hby
  clear hr hk hby
  unfold thing
  go_enter Try.func34, Try.ntmps34
  go_wp2_with fail
  refine (round7_calls kind _).mono ?_
  rintro e w1 ⟨rfl, rfl⟩
  rw [HK.out]
  have HCH : Aside0 (Chg (fun _ => False) w (((w.alloc (.cells #[Value.int .i64 who, Value.int .i64 kind, Value.int .u64 n, Value.int .i64 i, Value.int .i64 wd, Value.int .u8 b0, Value.int .u8 b1, Value.int .u8 b2, Value.int .u8 b3, Value.int .u8 b4, Value.int .u8 b5, Value.int .u8 b6, Value.int .u8 b7, Value.int .i16 x, Value.int .i16 y, .slice A m c] 46)).alloc (.cells #[Value.int .i64 0, Value.int .i64 0, Value.int .u64 0, Value.int .i64 0, Value.int .i64 0, Value.int .u8 0, Value.int .u8 0, Value.int .u8 0, Value.int .u8 0, Value.int .u8 0, Value.int .u8 0, Value.int .u8 0, Value.int .u8 0, Value.int .i16 0, Value.int .i16 0, Value.slice none 0 0] 46)).alloc (.cells #[Value.int .i64 0, Value.int .i64 4, Value.int .u64 0, Value.int .i64 0, Value.int .i64 0, Value.int .u8 0, Value.int .u8 0, Value.int .u8 0, Value.int .u8 0, Value.int .u8 0, Value.int .u8 0, Value.int .u8 0, Value.int .u8 0, Value.int .i16 0, Value.int .i16 0, Value.slice none 0 0] 46))) := ⟨Chg.alloc (Chg.alloc (Chg.alloc (Chg.refl _ _) _) _) _⟩
  have hx0 := blk_new ((w.alloc (.cells #[Value.int .i64 who, Value.int .i64 kind, Value.int .u64 n, Value.int .i64 i, Value.int .i64 wd, Value.int .u8 b0, Value.int .u8 b1, Value.int .u8 b2, Value.int .u8 b3, Value.int .u8 b4, Value.int .u8 b5, Value.int .u8 b6, Value.int .u8 b7, Value.int .i16 x, Value.int .i16 y, .slice A m c] 46)).alloc (.cells #[Value.int .i64 0, Value.int .i64 0, Value.int .u64 0, Value.int .i64 0, Value.int .i64 0, Value.int .u8 0, Value.int .u8 0, Value.int .u8 0, Value.int .u8 0, Value.int .u8 0, Value.int .u8 0, Value.int .u8 0, Value.int .u8 0, Value.int .i16 0, Value.int .i16 0, Value.slice none 0 0] 46)) (.cells #[Value.int .i64 0, Value.int .i64 4, Value.int .u64 0, Value.int .i64 0, Value.int .i64 0, Value.int .u8 0, Value.int .u8 0, Value.int .u8 0, Value.int .u8 0, Value.int .u8 0, Value.int .u8 0, Value.int .u8 0, Value.int .u8 0, Value.int .i16 0, Value.int .i16 0, Value.slice none 0 0] 46)
  have hr0 := blk_alloc (blk_new (w.alloc (.cells #[Value.int .i64 who, Value.int .i64 kind, Value.int .u64 n, Value.int .i64 i, Value.int .i64 wd, Value.int .u8 b0, Value.int .u8 b1, Value.int .u8 b2, Value.int .u8 b3, Value.int .u8 b4, Value.int .u8 b5, Value.int .u8 b6, Value.int .u8 b7, Value.int .i16 x, Value.int .i16 y, .slice A m c] 46)) (.cells #[Value.int .i64 0, Value.int .i64 0, Value.int .u64 0, Value.int .i64 0, Value.int .i64 0, Value.int .u8 0, Value.int .u8 0, Value.int .u8 0, Value.int .u8 0, Value.int .u8 0, Value.int .u8 0, Value.int .u8 0, Value.int .u8 0, Value.int .i16 0, Value.int .i16 0, Value.slice none 0 0] 46)) (.cells #[Value.int .i64 0, Value.int .i64 4, Value.int .u64 0, Value.int .i64 0, Value.int .i64 0, Value.int .u8 0, Value.int .u8 0, Value.int .u8 0, Value.int .u8 0, Value.int .u8 0, Value.int .u8 0, Value.int .u8 0, Value.int .u8 0, Value.int .i16 0, Value.int .i16 0, Value.slice none 0 0] 46)
  rw [World.size_alloc, World.size_alloc] at hx0
  rw [World.size_alloc] at hr0
  have HX0 := Aside0.mk hx0
  have HR0 := Aside0.mk hr0
  clear hx0 hr0
  have HKR := Aside0.mk (HR.out.keep HCH.out (fun _ _ h => h))
  go_wp2_with fail
  refine (rID_calls base g v l e0 _ HKR.out).mono ?_
  rintro e w2 ⟨rfl, h⟩
  have H := Aside0.mk h
  have hg : g < w.heap.size := blk_lt HR.out.blk
  have kx := (h.choose_spec.2.2).heap HX0.out (by omega)
  have kr := (h.choose_spec.2.2).heap HR0.out (by omega)
  clear hg h
  obtain ⟨i0, i1, i2, i3, i4, i5, i6, i7, hid⟩ := idR_eight l e0
  have HID := Aside0.mk hid
  rw [hid, nums_eight]
  clear hid
  have rc0 : w2.cell? ⟨w.heap.size + 1, 0, none⟩ = some (.int .i64 0) := (blk_cell kr 0).trans rfl
  have rf0 := blk_frozen kr 0
  have rc1 : w2.cell? ⟨w.heap.size + 1, 1, none⟩ = some (.int .i64 0) := (blk_cell kr 1).trans rfl
  have rf1 := blk_frozen kr 1
  have rc2 : w2.cell? ⟨w.heap.size + 1, 2, none⟩ = some (.int .u64 0) := (blk_cell kr 2).trans rfl
  have rf2 := blk_frozen kr 2
  have rc3 : w2.cell? ⟨w.heap.size + 1, 3, none⟩ = some (.int .i64 0) := (blk_cell kr 3).trans rfl
  have rf3 := blk_frozen kr 3
  have rc4 : w2.cell? ⟨w.heap.size + 1, 4, none⟩ = some (.int .i64 0) := (blk_cell kr 4).trans rfl
  have rf4 := blk_frozen kr 4
  have rc5 : w2.cell? ⟨w.heap.size + 1, 5, none⟩ = some (.int .u8 0) := (blk_cell kr 5).trans rfl
  have rf5 := blk_frozen kr 5
  have rc6 : w2.cell? ⟨w.heap.size + 1, 6, none⟩ = some (.int .u8 0) := (blk_cell kr 6).trans rfl
  have rf6 := blk_frozen kr 6
  have rc7 : w2.cell? ⟨w.heap.size + 1, 7, none⟩ = some (.int .u8 0) := (blk_cell kr 7).trans rfl
  have rf7 := blk_frozen kr 7
  have rc8 : w2.cell? ⟨w.heap.size + 1, 8, none⟩ = some (.int .u8 0) := (blk_cell kr 8).trans rfl
  have rf8 := blk_frozen kr 8
  have rc9 : w2.cell? ⟨w.heap.size + 1, 9, none⟩ = some (.int .u8 0) := (blk_cell kr 9).trans rfl
  have rf9 := blk_frozen kr 9
  have rc10 : w2.cell? ⟨w.heap.size + 1, 10, none⟩ = some (.int .u8 0) := (blk_cell kr 10).trans rfl
  have rf10 := blk_frozen kr 10
  have rc11 : w2.cell? ⟨w.heap.size + 1, 11, none⟩ = some (.int .u8 0) := (blk_cell kr 11).trans rfl
  have rf11 := blk_frozen kr 11
  have rc12 : w2.cell? ⟨w.heap.size + 1, 12, none⟩ = some (.int .u8 0) := (blk_cell kr 12).trans rfl
  have rf12 := blk_frozen kr 12
  have rc13 : w2.cell? ⟨w.heap.size + 1, 13, none⟩ = some (.int .i16 0) := (blk_cell kr 13).trans rfl
  have rf13 := blk_frozen kr 13
  have rc14 : w2.cell? ⟨w.heap.size + 1, 14, none⟩ = some (.int .i16 0) := (blk_cell kr 14).trans rfl
  have rf14 := blk_frozen kr 14
  have rc15 : w2.cell? ⟨w.heap.size + 1, 15, none⟩ = some (.slice none 0 0) := (blk_cell kr 15).trans rfl
  have rf15 := blk_frozen kr 15
  have xc0 : w2.cell? ⟨w.heap.size + 2, 0, none⟩ = some (.int .i64 0) := (blk_cell kx 0).trans rfl
  have xf0 := blk_frozen kx 0
  have xc1 : w2.cell? ⟨w.heap.size + 2, 1, none⟩ = some (.int .i64 4) := (blk_cell kx 1).trans rfl
  have xf1 := blk_frozen kx 1
  have xc2 : w2.cell? ⟨w.heap.size + 2, 2, none⟩ = some (.int .u64 0) := (blk_cell kx 2).trans rfl
  have xf2 := blk_frozen kx 2
  have xc3 : w2.cell? ⟨w.heap.size + 2, 3, none⟩ = some (.int .i64 0) := (blk_cell kx 3).trans rfl
  have xf3 := blk_frozen kx 3
  have xc4 : w2.cell? ⟨w.heap.size + 2, 4, none⟩ = some (.int .i64 0) := (blk_cell kx 4).trans rfl
  have xf4 := blk_frozen kx 4
  have xc5 : w2.cell? ⟨w.heap.size + 2, 5, none⟩ = some (.int .u8 0) := (blk_cell kx 5).trans rfl
  have xf5 := blk_frozen kx 5
  have xc6 : w2.cell? ⟨w.heap.size + 2, 6, none⟩ = some (.int .u8 0) := (blk_cell kx 6).trans rfl
  have xf6 := blk_frozen kx 6
  have xc7 : w2.cell? ⟨w.heap.size + 2, 7, none⟩ = some (.int .u8 0) := (blk_cell kx 7).trans rfl
  have xf7 := blk_frozen kx 7
  have xc8 : w2.cell? ⟨w.heap.size + 2, 8, none⟩ = some (.int .u8 0) := (blk_cell kx 8).trans rfl
  have xf8 := blk_frozen kx 8
  have xc9 : w2.cell? ⟨w.heap.size + 2, 9, none⟩ = some (.int .u8 0) := (blk_cell kx 9).trans rfl
  have xf9 := blk_frozen kx 9
  have xc10 : w2.cell? ⟨w.heap.size + 2, 10, none⟩ = some (.int .u8 0) := (blk_cell kx 10).trans rfl
  have xf10 := blk_frozen kx 10
  have xc11 : w2.cell? ⟨w.heap.size + 2, 11, none⟩ = some (.int .u8 0) := (blk_cell kx 11).trans rfl
  have xf11 := blk_frozen kx 11
  have xc12 : w2.cell? ⟨w.heap.size + 2, 12, none⟩ = some (.int .u8 0) := (blk_cell kx 12).trans rfl
  have xf12 := blk_frozen kx 12
  have xc13 : w2.cell? ⟨w.heap.size + 2, 13, none⟩ = some (.int .i16 0) := (blk_cell kx 13).trans rfl
  have xf13 := blk_frozen kx 13
  have xc14 : w2.cell? ⟨w.heap.size + 2, 14, none⟩ = some (.int .i16 0) := (blk_cell kx 14).trans rfl
  have xf14 := blk_frozen kx 14
  have xc15 : w2.cell? ⟨w.heap.size + 2, 15, none⟩ = some (.slice none 0 0) := (blk_cell kx 15).trans rfl
  have xf15 := blk_frozen kx 15
  have KX := Aside0.mk kx
  have KR := Aside0.mk kr
  clear kx kr
  go_wp2
  have HS := set16 (blk_far (blk_far (blk_far (blk_far (blk_far (blk_far (blk_far (blk_far KR.out (p := ⟨w.heap.size + 1 + 1, 5, none⟩) (by show w.heap.size + 1 ≠ w.heap.size + 1 + 1; omega) (.int .u8 i0)) (p := ⟨w.heap.size + 1 + 1, 6, none⟩) (by show w.heap.size + 1 ≠ w.heap.size + 1 + 1; omega) (.int .u8 i1)) (p := ⟨w.heap.size + 1 + 1, 7, none⟩) (by show w.heap.size + 1 ≠ w.heap.size + 1 + 1; omega) (.int .u8 i2)) (p := ⟨w.heap.size + 1 + 1, 8, none⟩) (by show w.heap.size + 1 ≠ w.heap.size + 1 + 1; omega) (.int .u8 i3)) (p := ⟨w.heap.size + 1 + 1, 9, none⟩) (by show w.heap.size + 1 ≠ w.heap.size + 1 + 1; omega) (.int .u8 i4)) (p := ⟨w.heap.size + 1 + 1, 10, none⟩) (by show w.heap.size + 1 ≠ w.heap.size + 1 + 1; omega) (.int .u8 i5)) (p := ⟨w.heap.size + 1 + 1, 11, none⟩) (by show w.heap.size + 1 ≠ w.heap.size + 1 + 1; omega) (.int .u8 i6)) (p := ⟨w.heap.size + 1 + 1, 12, none⟩) (by show w.heap.size + 1 ≠ w.heap.size + 1 + 1; omega) (.int .u8 i7)) (.int .i64 0) (.int .i64 4) (.int .u64 0) (.int .i64 0) (.int .i64 0) (.int .u8 i0) (.int .u8 i1) (.int .u8 i2) (.int .u8 i3) (.int .u8 i4) (.int .u8 i5) (.int .u8 i6) (.int .u8 i7) (.int .i16 0) (.int .i16 0) (.slice none 0 0)
  have HC2 : Chg (fun k => w.heap.size ≤ k) w2 ((((((((w2.setCell ⟨w.heap.size + 1 + 1, 5, none⟩ (.int .u8 i0)).setCell ⟨w.heap.size + 1 + 1, 6, none⟩ (.int .u8 i1)).setCell ⟨w.heap.size + 1 + 1, 7, none⟩ (.int .u8 i2)).setCell ⟨w.heap.size + 1 + 1, 8, none⟩ (.int .u8 i3)).setCell ⟨w.heap.size + 1 + 1, 9, none⟩ (.int .u8 i4)).setCell ⟨w.heap.size + 1 + 1, 10, none⟩ (.int .u8 i5)).setCell ⟨w.heap.size + 1 + 1, 11, none⟩ (.int .u8 i6)).setCell ⟨w.heap.size + 1 + 1, 12, none⟩ (.int .u8 i7)) := (Chg.setCell (F := fun k => w.heap.size ≤ k) (Chg.setCell (F := fun k => w.heap.size ≤ k) (Chg.setCell (F := fun k => w.heap.size ≤ k) (Chg.setCell (F := fun k => w.heap.size ≤ k) (Chg.setCell (F := fun k => w.heap.size ≤ k) (Chg.setCell (F := fun k => w.heap.size ≤ k) (Chg.setCell (F := fun k => w.heap.size ≤ k) (Chg.setCell (F := fun k => w.heap.size ≤ k) (Chg.refl _ _) (p := ⟨w.heap.size + 1 + 1, 5, none⟩) (Or.inl (by show w.heap.size ≤ w.heap.size + 1 + 1; omega)) _) (p := ⟨w.heap.size + 1 + 1, 6, none⟩) (Or.inl (by show w.heap.size ≤ w.heap.size + 1 + 1; omega)) _) (p := ⟨w.heap.size + 1 + 1, 7, none⟩) (Or.inl (by show w.heap.size ≤ w.heap.size + 1 + 1; omega)) _) (p := ⟨w.heap.size + 1 + 1, 8, none⟩) (Or.inl (by show w.heap.size ≤ w.heap.size + 1 + 1; omega)) _) (p := ⟨w.heap.size + 1 + 1, 9, none⟩) (Or.inl (by show w.heap.size ≤ w.heap.size + 1 + 1; omega)) _) (p := ⟨w.heap.size + 1 + 1, 10, none⟩) (Or.inl (by show w.heap.size ≤ w.heap.size + 1 + 1; omega)) _) (p := ⟨w.heap.size + 1 + 1, 11, none⟩) (Or.inl (by show w.heap.size ≤ w.heap.size + 1 + 1; omega)) _) (p := ⟨w.heap.size + 1 + 1, 12, none⟩) (Or.inl (by show w.heap.size ≤ w.heap.size + 1 + 1; omega)) _)
  refine bodyPost_ret (results_cell_row rfl _ _ (w.heap.size + 1) 46 _ (0, 0) _ rfl HS.1 Try.underlying46 rfl (by kernel_rfl)) rfl ?_
  rw [HID.out]
  exact ⟨rfl, Took.three HR.out HCH.out H.out (HC2.then HS.2 (fun i hi => Or.inl (by have q : i = w.heap.size + 1 := hi; omega)))⟩
end Go.Proofs.Ytjijmikpoenbcaa.Codec
