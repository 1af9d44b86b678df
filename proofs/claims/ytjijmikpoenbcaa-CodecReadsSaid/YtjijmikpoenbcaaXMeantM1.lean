/- What the document's readers answer of a thing. Written by wip/gen/meantm.py. -/
import Derived.Test.YtjijmikpoenbcaaC16
import Derived.Test.YtjijmikpoenbcaaRR
namespace Go.Proofs.Ytjijmikpoenbcaa.Codec
open Go.RowKit Go.Proofs.YtjijmikpoenbcaaW.PrintWords Go.Proofs.YtjijmikpoenbcaaW.PrintLast Go.Proofs.YtjijmikpoenbcaaW.PrintMore
set_option linter.unusedVariables false
set_option linter.unusedSimpArgs false
theorem backI_bad1 (l : List Int) (e : Int) : (if (varR l e).2.2 = 0 then backI (varR l e).1 else 0) = backI (varR l e).1 := by
 split
 · rfl
 · rename_i h
   rw [varR_bad l e h]
   rfl
set_option maxHeartbeats 8000000 in
set_option maxRecDepth 100000 in
theorem meant1_byte (gm gb : Nat) (A : Option Addr) (c : Nat) (l : List Int) (e0 : Int) (y0 y1 : Value) (w : World) (hm : M1 w gm gb A c l e0 y0 y1) (hby : IsBytes l) (hgb : gb < w.heap.size) (who kind n i wd b0 b1 b2 b3 b4 b5 b6 b7 x y : Int) (A' : Option Addr) (m c' : Nat) (hk : kindOf kind = 0) :
 Calls Try.prog 35 #[.pointer (some ⟨gm, 2, none⟩), .agg (thing who kind n i wd b0 b1 b2 b3 b4 b5 b6 b7 x y (.slice A' m c'))] w fun e w' => e = .returned (.agg (thing 0 0 (byteR l e0).1 0 0 0 0 0 0 0 0 0 0 0 0 (.slice none 0 0))) ∧ Mt1 gm gb (byteR l e0).2.1 (byteR l e0).2.2 y0 y1 w w' := by
 have HK := Aside0.mk hk
 have HBY := Aside0.mk hby
 have HGM : Aside0 (gm < w.heap.size ∧ gb < w.heap.size) := ⟨blk_lt hm.blk, hgb⟩
 have HCH : Aside0 (Chg (· = gm) w (((w.alloc (.cells #[Value.int .i64 who, Value.int .i64 kind, Value.int .u64 n, Value.int .i64 i, Value.int .i64 wd, Value.int .u8 b0, Value.int .u8 b1, Value.int .u8 b2, Value.int .u8 b3, Value.int .u8 b4, Value.int .u8 b5, Value.int .u8 b6, Value.int .u8 b7, Value.int .i16 x, Value.int .i16 y, .slice A' m c'] 46)).alloc (.cells #[Value.int .i64 0, Value.int .i64 0, Value.int .u64 0, Value.int .i64 0, Value.int .i64 0, Value.int .u8 0, Value.int .u8 0, Value.int .u8 0, Value.int .u8 0, Value.int .u8 0, Value.int .u8 0, Value.int .u8 0, Value.int .u8 0, Value.int .i16 0, Value.int .i16 0, Value.slice none 0 0] 46)).alloc (.cells #[Value.int .i64 0, Value.int .i64 0, Value.int .u64 0, Value.int .i64 0, Value.int .i64 0, Value.int .u8 0, Value.int .u8 0, Value.int .u8 0, Value.int .u8 0, Value.int .u8 0, Value.int .u8 0, Value.int .u8 0, Value.int .u8 0, Value.int .i16 0, Value.int .i16 0, Value.slice none 0 0] 46))) := ⟨Chg.alloc (Chg.alloc (Chg.alloc (Chg.refl _ _) _) _) _⟩
 have HKR : Aside0 (M1 (((w.alloc (.cells #[Value.int .i64 who, Value.int .i64 kind, Value.int .u64 n, Value.int .i64 i, Value.int .i64 wd, Value.int .u8 b0, Value.int .u8 b1, Value.int .u8 b2, Value.int .u8 b3, Value.int .u8 b4, Value.int .u8 b5, Value.int .u8 b6, Value.int .u8 b7, Value.int .i16 x, Value.int .i16 y, .slice A' m c'] 46)).alloc (.cells #[Value.int .i64 0, Value.int .i64 0, Value.int .u64 0, Value.int .i64 0, Value.int .i64 0, Value.int .u8 0, Value.int .u8 0, Value.int .u8 0, Value.int .u8 0, Value.int .u8 0, Value.int .u8 0, Value.int .u8 0, Value.int .u8 0, Value.int .i16 0, Value.int .i16 0, Value.slice none 0 0] 46)).alloc (.cells #[Value.int .i64 0, Value.int .i64 0, Value.int .u64 0, Value.int .i64 0, Value.int .i64 0, Value.int .u8 0, Value.int .u8 0, Value.int .u8 0, Value.int .u8 0, Value.int .u8 0, Value.int .u8 0, Value.int .u8 0, Value.int .u8 0, Value.int .i16 0, Value.int .i16 0, Value.slice none 0 0] 46)) gm gb A c l e0 y0 y1) := ⟨hm.keep (Chg.alloc (F := fun _ => False) (Chg.alloc (Chg.alloc (Chg.refl _ _) _) _) _) (fun q => q) (fun q => q)⟩
 have HBV : Aside0 (IntKind.u64.wrap (byteR l e0).1 = (byteR l e0).1) := ⟨wrap_u64_nonneg (byteR_range l e0 hby).1 (by have := (byteR_range l e0 hby).2; omega)⟩
 clear hm hk hby hgb
 unfold thing
 go_enter Try.func35, Try.ntmps35
 go_wp2_with fail
 refine (round7_calls kind _).mono ?_
 rintro e w1 ⟨rfl, rfl⟩
 rw [HK.out]
 have hx0 := blk_new ((w.alloc (.cells #[Value.int .i64 who, Value.int .i64 kind, Value.int .u64 n, Value.int .i64 i, Value.int .i64 wd, Value.int .u8 b0, Value.int .u8 b1, Value.int .u8 b2, Value.int .u8 b3, Value.int .u8 b4, Value.int .u8 b5, Value.int .u8 b6, Value.int .u8 b7, Value.int .i16 x, Value.int .i16 y, .slice A' m c'] 46)).alloc (.cells #[Value.int .i64 0, Value.int .i64 0, Value.int .u64 0, Value.int .i64 0, Value.int .i64 0, Value.int .u8 0, Value.int .u8 0, Value.int .u8 0, Value.int .u8 0, Value.int .u8 0, Value.int .u8 0, Value.int .u8 0, Value.int .u8 0, Value.int .i16 0, Value.int .i16 0, Value.slice none 0 0] 46)) (.cells #[Value.int .i64 0, Value.int .i64 0, Value.int .u64 0, Value.int .i64 0, Value.int .i64 0, Value.int .u8 0, Value.int .u8 0, Value.int .u8 0, Value.int .u8 0, Value.int .u8 0, Value.int .u8 0, Value.int .u8 0, Value.int .u8 0, Value.int .i16 0, Value.int .i16 0, Value.slice none 0 0] 46)
 have hr0 := blk_alloc (blk_new (w.alloc (.cells #[Value.int .i64 who, Value.int .i64 kind, Value.int .u64 n, Value.int .i64 i, Value.int .i64 wd, Value.int .u8 b0, Value.int .u8 b1, Value.int .u8 b2, Value.int .u8 b3, Value.int .u8 b4, Value.int .u8 b5, Value.int .u8 b6, Value.int .u8 b7, Value.int .i16 x, Value.int .i16 y, .slice A' m c'] 46)) (.cells #[Value.int .i64 0, Value.int .i64 0, Value.int .u64 0, Value.int .i64 0, Value.int .i64 0, Value.int .u8 0, Value.int .u8 0, Value.int .u8 0, Value.int .u8 0, Value.int .u8 0, Value.int .u8 0, Value.int .u8 0, Value.int .u8 0, Value.int .i16 0, Value.int .i16 0, Value.slice none 0 0] 46)) (.cells #[Value.int .i64 0, Value.int .i64 0, Value.int .u64 0, Value.int .i64 0, Value.int .i64 0, Value.int .u8 0, Value.int .u8 0, Value.int .u8 0, Value.int .u8 0, Value.int .u8 0, Value.int .u8 0, Value.int .u8 0, Value.int .u8 0, Value.int .i16 0, Value.int .i16 0, Value.slice none 0 0] 46)
 rw [World.size_alloc, World.size_alloc] at hx0
 rw [World.size_alloc] at hr0
 have HX0 := Aside0.mk hx0
 have HR0 := Aside0.mk hr0
 clear hx0 hr0
 go_wp2_with fail
 refine (mbyte1 gm gb A c l e0 y0 y1 _ HKR.out).mono ?_
 rintro e w2 ⟨rfl, h⟩
 have H := Aside0.mk h
 have hg : gm < w.heap.size := HGM.out.1
 have kx := (h.choose_spec.choose_spec.2.block _ (blk_lt HX0.out) (by omega)).trans HX0.out
 have kr := (h.choose_spec.choose_spec.2.block _ (blk_lt HR0.out) (by omega)).trans HR0.out
 clear hg h
 obtain ⟨rc0, rc1, rc2, rc3, rc4, rc5, rc6, rc7, rc8, rc9, rc10, rc11, rc12, rc13, rc14, rc15⟩ := cells16 kr
 obtain ⟨rf0, rf1, rf2, rf3, rf4, rf5, rf6, rf7, rf8, rf9, rf10, rf11, rf12, rf13, rf14, rf15⟩ := frozen16 kr
 obtain ⟨xc0, xc1, xc2, xc3, xc4, xc5, xc6, xc7, xc8, xc9, xc10, xc11, xc12, xc13, xc14, xc15⟩ := cells16 kx
 obtain ⟨xf0, xf1, xf2, xf3, xf4, xf5, xf6, xf7, xf8, xf9, xf10, xf11, xf12, xf13, xf14, xf15⟩ := frozen16 kx
 have KX := Aside0.mk kx
 have KR := Aside0.mk kr
 clear kx kr
 go_wp2
 have HS := set16 (blk_far KR.out (p := ⟨w.heap.size + 1 + 1, 2, none⟩) (by show w.heap.size + 1 ≠ w.heap.size + 1 + 1; omega) (.int .u64 (IntKind.u64.wrap (byteR l e0).1))) (.int .i64 0) (.int .i64 0) (.int .u64 (IntKind.u64.wrap (byteR l e0).1)) (.int .i64 0) (.int .i64 0) (.int .u8 0) (.int .u8 0) (.int .u8 0) (.int .u8 0) (.int .u8 0) (.int .u8 0) (.int .u8 0) (.int .u8 0) (.int .i16 0) (.int .i16 0) (.slice none 0 0)
 have HC2 : Chg (fun k => w.heap.size ≤ k) w2 (w2.setCell ⟨w.heap.size + 1 + 1, 2, none⟩ (.int .u64 (IntKind.u64.wrap (byteR l e0).1))) := (Chg.setCell (F := fun k => w.heap.size ≤ k) (Chg.refl _ _) (p := ⟨w.heap.size + 1 + 1, 2, none⟩) (Or.inl (by show w.heap.size ≤ w.heap.size + 1 + 1; omega)) _)
 refine bodyPost_ret (results_cell_row rfl _ _ (w.heap.size + 1) 46 _ (0, 0) _ rfl HS.1 Try.underlying46 rfl (by kernel_rfl)) rfl ?_
 rw [HBV.out] at HS HC2 ⊢
 exact ⟨rfl, Mt1.cells HGM.out.1 HGM.out.2 HCH.out H.out (HC2.then HS.2 (fun i hi => Or.inl (by have q : i = w.heap.size + 1 := hi; omega)))⟩
set_option maxHeartbeats 8000000 in
set_option maxRecDepth 100000 in
theorem meant1_fixed (gm gb : Nat) (A : Option Addr) (c : Nat) (l : List Int) (e0 : Int) (y0 y1 : Value) (w : World) (hm : M1 w gm gb A c l e0 y0 y1) (hby : IsBytes l) (hgb : gb < w.heap.size) (who kind n i wd b0 b1 b2 b3 b4 b5 b6 b7 x y : Int) (A' : Option Addr) (m c' : Nat) (hk : kindOf kind = 1) :
 Calls Try.prog 35 #[.pointer (some ⟨gm, 2, none⟩), .agg (thing who kind n i wd b0 b1 b2 b3 b4 b5 b6 b7 x y (.slice A' m c'))] w fun e w' => e = .returned (.agg (thing 0 1 (fixedR wd l e0).1 0 wd 0 0 0 0 0 0 0 0 0 0 (.slice none 0 0))) ∧ Mt1 gm gb (fixedR wd l e0).2.1 (fixedR wd l e0).2.2 y0 y1 w w' := by
 have HK := Aside0.mk hk
 have HBY := Aside0.mk hby
 have HGM : Aside0 (gm < w.heap.size ∧ gb < w.heap.size) := ⟨blk_lt hm.blk, hgb⟩
 have HCH : Aside0 (Chg (· = gm) w (((w.alloc (.cells #[Value.int .i64 who, Value.int .i64 kind, Value.int .u64 n, Value.int .i64 i, Value.int .i64 wd, Value.int .u8 b0, Value.int .u8 b1, Value.int .u8 b2, Value.int .u8 b3, Value.int .u8 b4, Value.int .u8 b5, Value.int .u8 b6, Value.int .u8 b7, Value.int .i16 x, Value.int .i16 y, .slice A' m c'] 46)).alloc (.cells #[Value.int .i64 0, Value.int .i64 0, Value.int .u64 0, Value.int .i64 0, Value.int .i64 0, Value.int .u8 0, Value.int .u8 0, Value.int .u8 0, Value.int .u8 0, Value.int .u8 0, Value.int .u8 0, Value.int .u8 0, Value.int .u8 0, Value.int .i16 0, Value.int .i16 0, Value.slice none 0 0] 46)).alloc (.cells #[Value.int .i64 0, Value.int .i64 1, Value.int .u64 0, Value.int .i64 0, Value.int .i64 0, Value.int .u8 0, Value.int .u8 0, Value.int .u8 0, Value.int .u8 0, Value.int .u8 0, Value.int .u8 0, Value.int .u8 0, Value.int .u8 0, Value.int .i16 0, Value.int .i16 0, Value.slice none 0 0] 46))) := ⟨Chg.alloc (Chg.alloc (Chg.alloc (Chg.refl _ _) _) _) _⟩
 have HKR : Aside0 (M1 (((w.alloc (.cells #[Value.int .i64 who, Value.int .i64 kind, Value.int .u64 n, Value.int .i64 i, Value.int .i64 wd, Value.int .u8 b0, Value.int .u8 b1, Value.int .u8 b2, Value.int .u8 b3, Value.int .u8 b4, Value.int .u8 b5, Value.int .u8 b6, Value.int .u8 b7, Value.int .i16 x, Value.int .i16 y, .slice A' m c'] 46)).alloc (.cells #[Value.int .i64 0, Value.int .i64 0, Value.int .u64 0, Value.int .i64 0, Value.int .i64 0, Value.int .u8 0, Value.int .u8 0, Value.int .u8 0, Value.int .u8 0, Value.int .u8 0, Value.int .u8 0, Value.int .u8 0, Value.int .u8 0, Value.int .i16 0, Value.int .i16 0, Value.slice none 0 0] 46)).alloc (.cells #[Value.int .i64 0, Value.int .i64 1, Value.int .u64 0, Value.int .i64 0, Value.int .i64 0, Value.int .u8 0, Value.int .u8 0, Value.int .u8 0, Value.int .u8 0, Value.int .u8 0, Value.int .u8 0, Value.int .u8 0, Value.int .u8 0, Value.int .i16 0, Value.int .i16 0, Value.slice none 0 0] 46)) gm gb A c l e0 y0 y1) := ⟨hm.keep (Chg.alloc (F := fun _ => False) (Chg.alloc (Chg.alloc (Chg.refl _ _) _) _) _) (fun q => q) (fun q => q)⟩
 clear hm hk hby hgb
 unfold thing
 go_enter Try.func35, Try.ntmps35
 go_wp2_with fail
 refine (round7_calls kind _).mono ?_
 rintro e w1 ⟨rfl, rfl⟩
 rw [HK.out]
 have hx0 := blk_new ((w.alloc (.cells #[Value.int .i64 who, Value.int .i64 kind, Value.int .u64 n, Value.int .i64 i, Value.int .i64 wd, Value.int .u8 b0, Value.int .u8 b1, Value.int .u8 b2, Value.int .u8 b3, Value.int .u8 b4, Value.int .u8 b5, Value.int .u8 b6, Value.int .u8 b7, Value.int .i16 x, Value.int .i16 y, .slice A' m c'] 46)).alloc (.cells #[Value.int .i64 0, Value.int .i64 0, Value.int .u64 0, Value.int .i64 0, Value.int .i64 0, Value.int .u8 0, Value.int .u8 0, Value.int .u8 0, Value.int .u8 0, Value.int .u8 0, Value.int .u8 0, Value.int .u8 0, Value.int .u8 0, Value.int .i16 0, Value.int .i16 0, Value.slice none 0 0] 46)) (.cells #[Value.int .i64 0, Value.int .i64 1, Value.int .u64 0, Value.int .i64 0, Value.int .i64 0, Value.int .u8 0, Value.int .u8 0, Value.int .u8 0, Value.int .u8 0, Value.int .u8 0, Value.int .u8 0, Value.int .u8 0, Value.int .u8 0, Value.int .i16 0, Value.int .i16 0, Value.slice none 0 0] 46)
 have hr0 := blk_alloc (blk_new (w.alloc (.cells #[Value.int .i64 who, Value.int .i64 kind, Value.int .u64 n, Value.int .i64 i, Value.int .i64 wd, Value.int .u8 b0, Value.int .u8 b1, Value.int .u8 b2, Value.int .u8 b3, Value.int .u8 b4, Value.int .u8 b5, Value.int .u8 b6, Value.int .u8 b7, Value.int .i16 x, Value.int .i16 y, .slice A' m c'] 46)) (.cells #[Value.int .i64 0, Value.int .i64 0, Value.int .u64 0, Value.int .i64 0, Value.int .i64 0, Value.int .u8 0, Value.int .u8 0, Value.int .u8 0, Value.int .u8 0, Value.int .u8 0, Value.int .u8 0, Value.int .u8 0, Value.int .u8 0, Value.int .i16 0, Value.int .i16 0, Value.slice none 0 0] 46)) (.cells #[Value.int .i64 0, Value.int .i64 1, Value.int .u64 0, Value.int .i64 0, Value.int .i64 0, Value.int .u8 0, Value.int .u8 0, Value.int .u8 0, Value.int .u8 0, Value.int .u8 0, Value.int .u8 0, Value.int .u8 0, Value.int .u8 0, Value.int .i16 0, Value.int .i16 0, Value.slice none 0 0] 46)
 rw [World.size_alloc, World.size_alloc] at hx0
 rw [World.size_alloc] at hr0
 have HX0 := Aside0.mk hx0
 have HR0 := Aside0.mk hr0
 clear hx0 hr0
 have HT0 := Aside0.mk (blk_alloc (blk_alloc (blk_new w (.cells #[Value.int .i64 who, Value.int .i64 kind, Value.int .u64 n, Value.int .i64 i, Value.int .i64 wd, Value.int .u8 b0, Value.int .u8 b1, Value.int .u8 b2, Value.int .u8 b3, Value.int .u8 b4, Value.int .u8 b5, Value.int .u8 b6, Value.int .u8 b7, Value.int .i16 x, Value.int .i16 y, .slice A' m c'] 46)) (.cells #[Value.int .i64 0, Value.int .i64 0, Value.int .u64 0, Value.int .i64 0, Value.int .i64 0, Value.int .u8 0, Value.int .u8 0, Value.int .u8 0, Value.int .u8 0, Value.int .u8 0, Value.int .u8 0, Value.int .u8 0, Value.int .u8 0, Value.int .i16 0, Value.int .i16 0, Value.slice none 0 0] 46)) (.cells #[Value.int .i64 0, Value.int .i64 1, Value.int .u64 0, Value.int .i64 0, Value.int .i64 0, Value.int .u8 0, Value.int .u8 0, Value.int .u8 0, Value.int .u8 0, Value.int .u8 0, Value.int .u8 0, Value.int .u8 0, Value.int .u8 0, Value.int .i16 0, Value.int .i16 0, Value.slice none 0 0] 46))
 go_wp2_with fail
 refine (mfixed1 gm gb A c l e0 y0 y1 _ HKR.out wd HBY.out).mono ?_
 rintro e w2 ⟨rfl, h⟩
 have H := Aside0.mk h
 have hg : gm < w.heap.size := HGM.out.1
 have kx := (h.choose_spec.choose_spec.2.block _ (blk_lt HX0.out) (by omega)).trans HX0.out
 have kr := (h.choose_spec.choose_spec.2.block _ (blk_lt HR0.out) (by omega)).trans HR0.out
 have kt := (h.choose_spec.choose_spec.2.block _ (blk_lt HT0.out) (by omega)).trans HT0.out
 clear hg h
 have tc4 : w2.cell? ⟨w.heap.size, 4, none⟩ = some (.int .i64 wd) := (blk_cell kt 4).trans rfl
 obtain ⟨rc0, rc1, rc2, rc3, rc4, rc5, rc6, rc7, rc8, rc9, rc10, rc11, rc12, rc13, rc14, rc15⟩ := cells16 kr
 obtain ⟨rf0, rf1, rf2, rf3, rf4, rf5, rf6, rf7, rf8, rf9, rf10, rf11, rf12, rf13, rf14, rf15⟩ := frozen16 kr
 obtain ⟨xc0, xc1, xc2, xc3, xc4, xc5, xc6, xc7, xc8, xc9, xc10, xc11, xc12, xc13, xc14, xc15⟩ := cells16 kx
 obtain ⟨xf0, xf1, xf2, xf3, xf4, xf5, xf6, xf7, xf8, xf9, xf10, xf11, xf12, xf13, xf14, xf15⟩ := frozen16 kx
 have KX := Aside0.mk kx
 have KR := Aside0.mk kr
 clear kx kr kt
 go_wp2
 have HS := set16 (blk_far (blk_far KR.out (p := ⟨w.heap.size + 1 + 1, 2, none⟩) (by show w.heap.size + 1 ≠ w.heap.size + 1 + 1; omega) (.int .u64 (fixedR wd l e0).1)) (p := ⟨w.heap.size + 1 + 1, 4, none⟩) (by show w.heap.size + 1 ≠ w.heap.size + 1 + 1; omega) (.int .i64 wd)) (.int .i64 0) (.int .i64 1) (.int .u64 (fixedR wd l e0).1) (.int .i64 0) (.int .i64 wd) (.int .u8 0) (.int .u8 0) (.int .u8 0) (.int .u8 0) (.int .u8 0) (.int .u8 0) (.int .u8 0) (.int .u8 0) (.int .i16 0) (.int .i16 0) (.slice none 0 0)
 have HC2 : Chg (fun k => w.heap.size ≤ k) w2 ((w2.setCell ⟨w.heap.size + 1 + 1, 2, none⟩ (.int .u64 (fixedR wd l e0).1)).setCell ⟨w.heap.size + 1 + 1, 4, none⟩ (.int .i64 wd)) := (Chg.setCell (F := fun k => w.heap.size ≤ k) (Chg.setCell (F := fun k => w.heap.size ≤ k) (Chg.refl _ _) (p := ⟨w.heap.size + 1 + 1, 2, none⟩) (Or.inl (by show w.heap.size ≤ w.heap.size + 1 + 1; omega)) _) (p := ⟨w.heap.size + 1 + 1, 4, none⟩) (Or.inl (by show w.heap.size ≤ w.heap.size + 1 + 1; omega)) _)
 refine bodyPost_ret (results_cell_row rfl _ _ (w.heap.size + 1) 46 _ (0, 0) _ rfl HS.1 Try.underlying46 rfl (by kernel_rfl)) rfl ?_
 exact ⟨rfl, Mt1.cells HGM.out.1 HGM.out.2 HCH.out H.out (HC2.then HS.2 (fun i hi => Or.inl (by have q : i = w.heap.size + 1 := hi; omega)))⟩
set_option maxHeartbeats 8000000 in
set_option maxRecDepth 100000 in
theorem meant1_var (gm gb : Nat) (A : Option Addr) (c : Nat) (l : List Int) (e0 : Int) (y0 y1 : Value) (w : World) (hm : M1 w gm gb A c l e0 y0 y1) (hby : IsBytes l) (hgb : gb < w.heap.size) (who kind n i wd b0 b1 b2 b3 b4 b5 b6 b7 x y : Int) (A' : Option Addr) (m c' : Nat) (hk : kindOf kind = 2) :
 Calls Try.prog 35 #[.pointer (some ⟨gm, 2, none⟩), .agg (thing who kind n i wd b0 b1 b2 b3 b4 b5 b6 b7 x y (.slice A' m c'))] w fun e w' => e = .returned (.agg (thing 0 2 (varR l e0).1 0 0 0 0 0 0 0 0 0 0 0 0 (.slice none 0 0))) ∧ Mt1 gm gb (varR l e0).2.1 (varR l e0).2.2 y0 y1 w w' := by
 have HK := Aside0.mk hk
 have HBY := Aside0.mk hby
 have HGM : Aside0 (gm < w.heap.size ∧ gb < w.heap.size) := ⟨blk_lt hm.blk, hgb⟩
 have HCH : Aside0 (Chg (· = gm) w (((w.alloc (.cells #[Value.int .i64 who, Value.int .i64 kind, Value.int .u64 n, Value.int .i64 i, Value.int .i64 wd, Value.int .u8 b0, Value.int .u8 b1, Value.int .u8 b2, Value.int .u8 b3, Value.int .u8 b4, Value.int .u8 b5, Value.int .u8 b6, Value.int .u8 b7, Value.int .i16 x, Value.int .i16 y, .slice A' m c'] 46)).alloc (.cells #[Value.int .i64 0, Value.int .i64 0, Value.int .u64 0, Value.int .i64 0, Value.int .i64 0, Value.int .u8 0, Value.int .u8 0, Value.int .u8 0, Value.int .u8 0, Value.int .u8 0, Value.int .u8 0, Value.int .u8 0, Value.int .u8 0, Value.int .i16 0, Value.int .i16 0, Value.slice none 0 0] 46)).alloc (.cells #[Value.int .i64 0, Value.int .i64 2, Value.int .u64 0, Value.int .i64 0, Value.int .i64 0, Value.int .u8 0, Value.int .u8 0, Value.int .u8 0, Value.int .u8 0, Value.int .u8 0, Value.int .u8 0, Value.int .u8 0, Value.int .u8 0, Value.int .i16 0, Value.int .i16 0, Value.slice none 0 0] 46))) := ⟨Chg.alloc (Chg.alloc (Chg.alloc (Chg.refl _ _) _) _) _⟩
 have HKR : Aside0 (M1 (((w.alloc (.cells #[Value.int .i64 who, Value.int .i64 kind, Value.int .u64 n, Value.int .i64 i, Value.int .i64 wd, Value.int .u8 b0, Value.int .u8 b1, Value.int .u8 b2, Value.int .u8 b3, Value.int .u8 b4, Value.int .u8 b5, Value.int .u8 b6, Value.int .u8 b7, Value.int .i16 x, Value.int .i16 y, .slice A' m c'] 46)).alloc (.cells #[Value.int .i64 0, Value.int .i64 0, Value.int .u64 0, Value.int .i64 0, Value.int .i64 0, Value.int .u8 0, Value.int .u8 0, Value.int .u8 0, Value.int .u8 0, Value.int .u8 0, Value.int .u8 0, Value.int .u8 0, Value.int .u8 0, Value.int .i16 0, Value.int .i16 0, Value.slice none 0 0] 46)).alloc (.cells #[Value.int .i64 0, Value.int .i64 2, Value.int .u64 0, Value.int .i64 0, Value.int .i64 0, Value.int .u8 0, Value.int .u8 0, Value.int .u8 0, Value.int .u8 0, Value.int .u8 0, Value.int .u8 0, Value.int .u8 0, Value.int .u8 0, Value.int .i16 0, Value.int .i16 0, Value.slice none 0 0] 46)) gm gb A c l e0 y0 y1) := ⟨hm.keep (Chg.alloc (F := fun _ => False) (Chg.alloc (Chg.alloc (Chg.refl _ _) _) _) _) (fun q => q) (fun q => q)⟩
 clear hm hk hby hgb
 unfold thing
 go_enter Try.func35, Try.ntmps35
 go_wp2_with fail
 refine (round7_calls kind _).mono ?_
 rintro e w1 ⟨rfl, rfl⟩
 rw [HK.out]
 have hx0 := blk_new ((w.alloc (.cells #[Value.int .i64 who, Value.int .i64 kind, Value.int .u64 n, Value.int .i64 i, Value.int .i64 wd, Value.int .u8 b0, Value.int .u8 b1, Value.int .u8 b2, Value.int .u8 b3, Value.int .u8 b4, Value.int .u8 b5, Value.int .u8 b6, Value.int .u8 b7, Value.int .i16 x, Value.int .i16 y, .slice A' m c'] 46)).alloc (.cells #[Value.int .i64 0, Value.int .i64 0, Value.int .u64 0, Value.int .i64 0, Value.int .i64 0, Value.int .u8 0, Value.int .u8 0, Value.int .u8 0, Value.int .u8 0, Value.int .u8 0, Value.int .u8 0, Value.int .u8 0, Value.int .u8 0, Value.int .i16 0, Value.int .i16 0, Value.slice none 0 0] 46)) (.cells #[Value.int .i64 0, Value.int .i64 2, Value.int .u64 0, Value.int .i64 0, Value.int .i64 0, Value.int .u8 0, Value.int .u8 0, Value.int .u8 0, Value.int .u8 0, Value.int .u8 0, Value.int .u8 0, Value.int .u8 0, Value.int .u8 0, Value.int .i16 0, Value.int .i16 0, Value.slice none 0 0] 46)
 have hr0 := blk_alloc (blk_new (w.alloc (.cells #[Value.int .i64 who, Value.int .i64 kind, Value.int .u64 n, Value.int .i64 i, Value.int .i64 wd, Value.int .u8 b0, Value.int .u8 b1, Value.int .u8 b2, Value.int .u8 b3, Value.int .u8 b4, Value.int .u8 b5, Value.int .u8 b6, Value.int .u8 b7, Value.int .i16 x, Value.int .i16 y, .slice A' m c'] 46)) (.cells #[Value.int .i64 0, Value.int .i64 0, Value.int .u64 0, Value.int .i64 0, Value.int .i64 0, Value.int .u8 0, Value.int .u8 0, Value.int .u8 0, Value.int .u8 0, Value.int .u8 0, Value.int .u8 0, Value.int .u8 0, Value.int .u8 0, Value.int .i16 0, Value.int .i16 0, Value.slice none 0 0] 46)) (.cells #[Value.int .i64 0, Value.int .i64 2, Value.int .u64 0, Value.int .i64 0, Value.int .i64 0, Value.int .u8 0, Value.int .u8 0, Value.int .u8 0, Value.int .u8 0, Value.int .u8 0, Value.int .u8 0, Value.int .u8 0, Value.int .u8 0, Value.int .i16 0, Value.int .i16 0, Value.slice none 0 0] 46)
 rw [World.size_alloc, World.size_alloc] at hx0
 rw [World.size_alloc] at hr0
 have HX0 := Aside0.mk hx0
 have HR0 := Aside0.mk hr0
 clear hx0 hr0
 go_wp2_with fail
 refine (mvar1 gm gb A c l e0 y0 y1 _ HKR.out HBY.out).mono ?_
 rintro e w2 ⟨rfl, h⟩
 have H := Aside0.mk h
 have hg : gm < w.heap.size := HGM.out.1
 have kx := (h.choose_spec.choose_spec.2.block _ (blk_lt HX0.out) (by omega)).trans HX0.out
 have kr := (h.choose_spec.choose_spec.2.block _ (blk_lt HR0.out) (by omega)).trans HR0.out
 clear hg h
 obtain ⟨rc0, rc1, rc2, rc3, rc4, rc5, rc6, rc7, rc8, rc9, rc10, rc11, rc12, rc13, rc14, rc15⟩ := cells16 kr
 obtain ⟨rf0, rf1, rf2, rf3, rf4, rf5, rf6, rf7, rf8, rf9, rf10, rf11, rf12, rf13, rf14, rf15⟩ := frozen16 kr
 obtain ⟨xc0, xc1, xc2, xc3, xc4, xc5, xc6, xc7, xc8, xc9, xc10, xc11, xc12, xc13, xc14, xc15⟩ := cells16 kx
 obtain ⟨xf0, xf1, xf2, xf3, xf4, xf5, xf6, xf7, xf8, xf9, xf10, xf11, xf12, xf13, xf14, xf15⟩ := frozen16 kx
 have KX := Aside0.mk kx
 have KR := Aside0.mk kr
 clear kx kr
 go_wp2
 have HS := set16 (blk_far KR.out (p := ⟨w.heap.size + 1 + 1, 2, none⟩) (by show w.heap.size + 1 ≠ w.heap.size + 1 + 1; omega) (.int .u64 (varR l e0).1)) (.int .i64 0) (.int .i64 2) (.int .u64 (varR l e0).1) (.int .i64 0) (.int .i64 0) (.int .u8 0) (.int .u8 0) (.int .u8 0) (.int .u8 0) (.int .u8 0) (.int .u8 0) (.int .u8 0) (.int .u8 0) (.int .i16 0) (.int .i16 0) (.slice none 0 0)
 have HC2 : Chg (fun k => w.heap.size ≤ k) w2 (w2.setCell ⟨w.heap.size + 1 + 1, 2, none⟩ (.int .u64 (varR l e0).1)) := (Chg.setCell (F := fun k => w.heap.size ≤ k) (Chg.refl _ _) (p := ⟨w.heap.size + 1 + 1, 2, none⟩) (Or.inl (by show w.heap.size ≤ w.heap.size + 1 + 1; omega)) _)
 refine bodyPost_ret (results_cell_row rfl _ _ (w.heap.size + 1) 46 _ (0, 0) _ rfl HS.1 Try.underlying46 rfl (by kernel_rfl)) rfl ?_
 exact ⟨rfl, Mt1.cells HGM.out.1 HGM.out.2 HCH.out H.out (HC2.then HS.2 (fun i hi => Or.inl (by have q : i = w.heap.size + 1 := hi; omega)))⟩
set_option maxHeartbeats 8000000 in
set_option maxRecDepth 100000 in
theorem meant1_int (gm gb : Nat) (A : Option Addr) (c : Nat) (l : List Int) (e0 : Int) (y0 y1 : Value) (w : World) (hm : M1 w gm gb A c l e0 y0 y1) (hby : IsBytes l) (hgb : gb < w.heap.size) (who kind n i wd b0 b1 b2 b3 b4 b5 b6 b7 x y : Int) (A' : Option Addr) (m c' : Nat) (hk : kindOf kind = 3) :
 Calls Try.prog 35 #[.pointer (some ⟨gm, 2, none⟩), .agg (thing who kind n i wd b0 b1 b2 b3 b4 b5 b6 b7 x y (.slice A' m c'))] w fun e w' => e = .returned (.agg (thing 0 3 0 (backI (varR l e0).1) 0 0 0 0 0 0 0 0 0 0 0 (.slice none 0 0))) ∧ Mt1 gm gb (varR l e0).2.1 (varR l e0).2.2 y0 y1 w w' := by
 have HK := Aside0.mk hk
 have HBY := Aside0.mk hby
 have HGM : Aside0 (gm < w.heap.size ∧ gb < w.heap.size) := ⟨blk_lt hm.blk, hgb⟩
 have HCH : Aside0 (Chg (· = gm) w (((w.alloc (.cells #[Value.int .i64 who, Value.int .i64 kind, Value.int .u64 n, Value.int .i64 i, Value.int .i64 wd, Value.int .u8 b0, Value.int .u8 b1, Value.int .u8 b2, Value.int .u8 b3, Value.int .u8 b4, Value.int .u8 b5, Value.int .u8 b6, Value.int .u8 b7, Value.int .i16 x, Value.int .i16 y, .slice A' m c'] 46)).alloc (.cells #[Value.int .i64 0, Value.int .i64 0, Value.int .u64 0, Value.int .i64 0, Value.int .i64 0, Value.int .u8 0, Value.int .u8 0, Value.int .u8 0, Value.int .u8 0, Value.int .u8 0, Value.int .u8 0, Value.int .u8 0, Value.int .u8 0, Value.int .i16 0, Value.int .i16 0, Value.slice none 0 0] 46)).alloc (.cells #[Value.int .i64 0, Value.int .i64 3, Value.int .u64 0, Value.int .i64 0, Value.int .i64 0, Value.int .u8 0, Value.int .u8 0, Value.int .u8 0, Value.int .u8 0, Value.int .u8 0, Value.int .u8 0, Value.int .u8 0, Value.int .u8 0, Value.int .i16 0, Value.int .i16 0, Value.slice none 0 0] 46))) := ⟨Chg.alloc (Chg.alloc (Chg.alloc (Chg.refl _ _) _) _) _⟩
 have HKR : Aside0 (M1 (((w.alloc (.cells #[Value.int .i64 who, Value.int .i64 kind, Value.int .u64 n, Value.int .i64 i, Value.int .i64 wd, Value.int .u8 b0, Value.int .u8 b1, Value.int .u8 b2, Value.int .u8 b3, Value.int .u8 b4, Value.int .u8 b5, Value.int .u8 b6, Value.int .u8 b7, Value.int .i16 x, Value.int .i16 y, .slice A' m c'] 46)).alloc (.cells #[Value.int .i64 0, Value.int .i64 0, Value.int .u64 0, Value.int .i64 0, Value.int .i64 0, Value.int .u8 0, Value.int .u8 0, Value.int .u8 0, Value.int .u8 0, Value.int .u8 0, Value.int .u8 0, Value.int .u8 0, Value.int .u8 0, Value.int .i16 0, Value.int .i16 0, Value.slice none 0 0] 46)).alloc (.cells #[Value.int .i64 0, Value.int .i64 3, Value.int .u64 0, Value.int .i64 0, Value.int .i64 0, Value.int .u8 0, Value.int .u8 0, Value.int .u8 0, Value.int .u8 0, Value.int .u8 0, Value.int .u8 0, Value.int .u8 0, Value.int .u8 0, Value.int .i16 0, Value.int .i16 0, Value.slice none 0 0] 46)) gm gb A c l e0 y0 y1) := ⟨hm.keep (Chg.alloc (F := fun _ => False) (Chg.alloc (Chg.alloc (Chg.refl _ _) _) _) _) (fun q => q) (fun q => q)⟩
 clear hm hk hby hgb
 unfold thing
 go_enter Try.func35, Try.ntmps35
 go_wp2_with fail
 refine (round7_calls kind _).mono ?_
 rintro e w1 ⟨rfl, rfl⟩
 rw [HK.out]
 have hx0 := blk_new ((w.alloc (.cells #[Value.int .i64 who, Value.int .i64 kind, Value.int .u64 n, Value.int .i64 i, Value.int .i64 wd, Value.int .u8 b0, Value.int .u8 b1, Value.int .u8 b2, Value.int .u8 b3, Value.int .u8 b4, Value.int .u8 b5, Value.int .u8 b6, Value.int .u8 b7, Value.int .i16 x, Value.int .i16 y, .slice A' m c'] 46)).alloc (.cells #[Value.int .i64 0, Value.int .i64 0, Value.int .u64 0, Value.int .i64 0, Value.int .i64 0, Value.int .u8 0, Value.int .u8 0, Value.int .u8 0, Value.int .u8 0, Value.int .u8 0, Value.int .u8 0, Value.int .u8 0, Value.int .u8 0, Value.int .i16 0, Value.int .i16 0, Value.slice none 0 0] 46)) (.cells #[Value.int .i64 0, Value.int .i64 3, Value.int .u64 0, Value.int .i64 0, Value.int .i64 0, Value.int .u8 0, Value.int .u8 0, Value.int .u8 0, Value.int .u8 0, Value.int .u8 0, Value.int .u8 0, Value.int .u8 0, Value.int .u8 0, Value.int .i16 0, Value.int .i16 0, Value.slice none 0 0] 46)
 have hr0 := blk_alloc (blk_new (w.alloc (.cells #[Value.int .i64 who, Value.int .i64 kind, Value.int .u64 n, Value.int .i64 i, Value.int .i64 wd, Value.int .u8 b0, Value.int .u8 b1, Value.int .u8 b2, Value.int .u8 b3, Value.int .u8 b4, Value.int .u8 b5, Value.int .u8 b6, Value.int .u8 b7, Value.int .i16 x, Value.int .i16 y, .slice A' m c'] 46)) (.cells #[Value.int .i64 0, Value.int .i64 0, Value.int .u64 0, Value.int .i64 0, Value.int .i64 0, Value.int .u8 0, Value.int .u8 0, Value.int .u8 0, Value.int .u8 0, Value.int .u8 0, Value.int .u8 0, Value.int .u8 0, Value.int .u8 0, Value.int .i16 0, Value.int .i16 0, Value.slice none 0 0] 46)) (.cells #[Value.int .i64 0, Value.int .i64 3, Value.int .u64 0, Value.int .i64 0, Value.int .i64 0, Value.int .u8 0, Value.int .u8 0, Value.int .u8 0, Value.int .u8 0, Value.int .u8 0, Value.int .u8 0, Value.int .u8 0, Value.int .u8 0, Value.int .i16 0, Value.int .i16 0, Value.slice none 0 0] 46)
 rw [World.size_alloc, World.size_alloc] at hx0
 rw [World.size_alloc] at hr0
 have HX0 := Aside0.mk hx0
 have HR0 := Aside0.mk hr0
 clear hx0 hr0
 go_wp2_with fail
 refine (mint1 gm gb A c l e0 y0 y1 _ HKR.out HBY.out).mono ?_
 rintro e w2 ⟨rfl, h⟩
 have H := Aside0.mk h
 have hg : gm < w.heap.size := HGM.out.1
 have kx := (h.choose_spec.choose_spec.2.block _ (blk_lt HX0.out) (by omega)).trans HX0.out
 have kr := (h.choose_spec.choose_spec.2.block _ (blk_lt HR0.out) (by omega)).trans HR0.out
 clear hg h
 rw [backI_bad1]
 obtain ⟨rc0, rc1, rc2, rc3, rc4, rc5, rc6, rc7, rc8, rc9, rc10, rc11, rc12, rc13, rc14, rc15⟩ := cells16 kr
 obtain ⟨rf0, rf1, rf2, rf3, rf4, rf5, rf6, rf7, rf8, rf9, rf10, rf11, rf12, rf13, rf14, rf15⟩ := frozen16 kr
 obtain ⟨xc0, xc1, xc2, xc3, xc4, xc5, xc6, xc7, xc8, xc9, xc10, xc11, xc12, xc13, xc14, xc15⟩ := cells16 kx
 obtain ⟨xf0, xf1, xf2, xf3, xf4, xf5, xf6, xf7, xf8, xf9, xf10, xf11, xf12, xf13, xf14, xf15⟩ := frozen16 kx
 have KX := Aside0.mk kx
 have KR := Aside0.mk kr
 clear kx kr
 go_wp2
 have HS := set16 (blk_far KR.out (p := ⟨w.heap.size + 1 + 1, 3, none⟩) (by show w.heap.size + 1 ≠ w.heap.size + 1 + 1; omega) (.int .i64 (backI (varR l e0).1))) (.int .i64 0) (.int .i64 3) (.int .u64 0) (.int .i64 (backI (varR l e0).1)) (.int .i64 0) (.int .u8 0) (.int .u8 0) (.int .u8 0) (.int .u8 0) (.int .u8 0) (.int .u8 0) (.int .u8 0) (.int .u8 0) (.int .i16 0) (.int .i16 0) (.slice none 0 0)
 have HC2 : Chg (fun k => w.heap.size ≤ k) w2 (w2.setCell ⟨w.heap.size + 1 + 1, 3, none⟩ (.int .i64 (backI (varR l e0).1))) := (Chg.setCell (F := fun k => w.heap.size ≤ k) (Chg.refl _ _) (p := ⟨w.heap.size + 1 + 1, 3, none⟩) (Or.inl (by show w.heap.size ≤ w.heap.size + 1 + 1; omega)) _)
 refine bodyPost_ret (results_cell_row rfl _ _ (w.heap.size + 1) 46 _ (0, 0) _ rfl HS.1 Try.underlying46 rfl (by kernel_rfl)) rfl ?_
 exact ⟨rfl, Mt1.cells HGM.out.1 HGM.out.2 HCH.out H.out (HC2.then HS.2 (fun i hi => Or.inl (by have q : i = w.heap.size + 1 := hi; omega)))⟩
set_option maxHeartbeats 8000000 in
set_option maxRecDepth 100000 in
theorem meant1_id (gm gb : Nat) (A : Option Addr) (c : Nat) (l : List Int) (e0 : Int) (y0 y1 : Value) (w : World) (hm : M1 w gm gb A c l e0 y0 y1) (hby : IsBytes l) (hgb : gb < w.heap.size) (who kind n i wd b0 b1 b2 b3 b4 b5 b6 b7 x y : Int) (A' : Option Addr) (m c' : Nat) (hk : kindOf kind = 4) :
 Calls Try.prog 35 #[.pointer (some ⟨gm, 2, none⟩), .agg (thing who kind n i wd b0 b1 b2 b3 b4 b5 b6 b7 x y (.slice A' m c'))] w fun e w' => e = .returned (.agg (thing 0 4 0 0 0 (rd (idR l e0).1 0) (rd (idR l e0).1 1) (rd (idR l e0).1 2) (rd (idR l e0).1 3) (rd (idR l e0).1 4) (rd (idR l e0).1 5) (rd (idR l e0).1 6) (rd (idR l e0).1 7) 0 0 (.slice none 0 0))) ∧ Mt1 gm gb (idR l e0).2.1 (idR l e0).2.2 y0 y1 w w' := by
 have HK := Aside0.mk hk
 have HBY := Aside0.mk hby
 have HGM : Aside0 (gm < w.heap.size ∧ gb < w.heap.size) := ⟨blk_lt hm.blk, hgb⟩
 have HCH : Aside0 (Chg (· = gm) w (((w.alloc (.cells #[Value.int .i64 who, Value.int .i64 kind, Value.int .u64 n, Value.int .i64 i, Value.int .i64 wd, Value.int .u8 b0, Value.int .u8 b1, Value.int .u8 b2, Value.int .u8 b3, Value.int .u8 b4, Value.int .u8 b5, Value.int .u8 b6, Value.int .u8 b7, Value.int .i16 x, Value.int .i16 y, .slice A' m c'] 46)).alloc (.cells #[Value.int .i64 0, Value.int .i64 0, Value.int .u64 0, Value.int .i64 0, Value.int .i64 0, Value.int .u8 0, Value.int .u8 0, Value.int .u8 0, Value.int .u8 0, Value.int .u8 0, Value.int .u8 0, Value.int .u8 0, Value.int .u8 0, Value.int .i16 0, Value.int .i16 0, Value.slice none 0 0] 46)).alloc (.cells #[Value.int .i64 0, Value.int .i64 4, Value.int .u64 0, Value.int .i64 0, Value.int .i64 0, Value.int .u8 0, Value.int .u8 0, Value.int .u8 0, Value.int .u8 0, Value.int .u8 0, Value.int .u8 0, Value.int .u8 0, Value.int .u8 0, Value.int .i16 0, Value.int .i16 0, Value.slice none 0 0] 46))) := ⟨Chg.alloc (Chg.alloc (Chg.alloc (Chg.refl _ _) _) _) _⟩
 have HKR : Aside0 (M1 (((w.alloc (.cells #[Value.int .i64 who, Value.int .i64 kind, Value.int .u64 n, Value.int .i64 i, Value.int .i64 wd, Value.int .u8 b0, Value.int .u8 b1, Value.int .u8 b2, Value.int .u8 b3, Value.int .u8 b4, Value.int .u8 b5, Value.int .u8 b6, Value.int .u8 b7, Value.int .i16 x, Value.int .i16 y, .slice A' m c'] 46)).alloc (.cells #[Value.int .i64 0, Value.int .i64 0, Value.int .u64 0, Value.int .i64 0, Value.int .i64 0, Value.int .u8 0, Value.int .u8 0, Value.int .u8 0, Value.int .u8 0, Value.int .u8 0, Value.int .u8 0, Value.int .u8 0, Value.int .u8 0, Value.int .i16 0, Value.int .i16 0, Value.slice none 0 0] 46)).alloc (.cells #[Value.int .i64 0, Value.int .i64 4, Value.int .u64 0, Value.int .i64 0, Value.int .i64 0, Value.int .u8 0, Value.int .u8 0, Value.int .u8 0, Value.int .u8 0, Value.int .u8 0, Value.int .u8 0, Value.int .u8 0, Value.int .u8 0, Value.int .i16 0, Value.int .i16 0, Value.slice none 0 0] 46)) gm gb A c l e0 y0 y1) := ⟨hm.keep (Chg.alloc (F := fun _ => False) (Chg.alloc (Chg.alloc (Chg.refl _ _) _) _) _) (fun q => q) (fun q => q)⟩
 clear hm hk hby hgb
 unfold thing
 go_enter Try.func35, Try.ntmps35
 go_wp2_with fail
 refine (round7_calls kind _).mono ?_
 rintro e w1 ⟨rfl, rfl⟩
 rw [HK.out]
 have hx0 := blk_new ((w.alloc (.cells #[Value.int .i64 who, Value.int .i64 kind, Value.int .u64 n, Value.int .i64 i, Value.int .i64 wd, Value.int .u8 b0, Value.int .u8 b1, Value.int .u8 b2, Value.int .u8 b3, Value.int .u8 b4, Value.int .u8 b5, Value.int .u8 b6, Value.int .u8 b7, Value.int .i16 x, Value.int .i16 y, .slice A' m c'] 46)).alloc (.cells #[Value.int .i64 0, Value.int .i64 0, Value.int .u64 0, Value.int .i64 0, Value.int .i64 0, Value.int .u8 0, Value.int .u8 0, Value.int .u8 0, Value.int .u8 0, Value.int .u8 0, Value.int .u8 0, Value.int .u8 0, Value.int .u8 0, Value.int .i16 0, Value.int .i16 0, Value.slice none 0 0] 46)) (.cells #[Value.int .i64 0, Value.int .i64 4, Value.int .u64 0, Value.int .i64 0, Value.int .i64 0, Value.int .u8 0, Value.int .u8 0, Value.int .u8 0, Value.int .u8 0, Value.int .u8 0, Value.int .u8 0, Value.int .u8 0, Value.int .u8 0, Value.int .i16 0, Value.int .i16 0, Value.slice none 0 0] 46)
 have hr0 := blk_alloc (blk_new (w.alloc (.cells #[Value.int .i64 who, Value.int .i64 kind, Value.int .u64 n, Value.int .i64 i, Value.int .i64 wd, Value.int .u8 b0, Value.int .u8 b1, Value.int .u8 b2, Value.int .u8 b3, Value.int .u8 b4, Value.int .u8 b5, Value.int .u8 b6, Value.int .u8 b7, Value.int .i16 x, Value.int .i16 y, .slice A' m c'] 46)) (.cells #[Value.int .i64 0, Value.int .i64 0, Value.int .u64 0, Value.int .i64 0, Value.int .i64 0, Value.int .u8 0, Value.int .u8 0, Value.int .u8 0, Value.int .u8 0, Value.int .u8 0, Value.int .u8 0, Value.int .u8 0, Value.int .u8 0, Value.int .i16 0, Value.int .i16 0, Value.slice none 0 0] 46)) (.cells #[Value.int .i64 0, Value.int .i64 4, Value.int .u64 0, Value.int .i64 0, Value.int .i64 0, Value.int .u8 0, Value.int .u8 0, Value.int .u8 0, Value.int .u8 0, Value.int .u8 0, Value.int .u8 0, Value.int .u8 0, Value.int .u8 0, Value.int .i16 0, Value.int .i16 0, Value.slice none 0 0] 46)
 rw [World.size_alloc, World.size_alloc] at hx0
 rw [World.size_alloc] at hr0
 have HX0 := Aside0.mk hx0
 have HR0 := Aside0.mk hr0
 clear hx0 hr0
 go_wp2_with fail
 refine (mid1 gm gb A c l e0 y0 y1 _ HKR.out (by rw [World.size_alloc, World.size_alloc, World.size_alloc]; have := HGM.out.2; omega)).mono ?_
 rintro e w2 ⟨rfl, h⟩
 have H := Aside0.mk h
 have hg : gm < w.heap.size := HGM.out.1
 have kx := (h.choose_spec.choose_spec.2.block _ (blk_lt HX0.out) (by omega)).trans HX0.out
 have kr := (h.choose_spec.choose_spec.2.block _ (blk_lt HR0.out) (by omega)).trans HR0.out
 clear hg h
 obtain ⟨i0, i1, i2, i3, i4, i5, i6, i7, hid⟩ := idR_eight l e0
 have HID := Aside0.mk hid
 rw [hid, nums_eight]
 clear hid
 obtain ⟨rc0, rc1, rc2, rc3, rc4, rc5, rc6, rc7, rc8, rc9, rc10, rc11, rc12, rc13, rc14, rc15⟩ := cells16 kr
 obtain ⟨rf0, rf1, rf2, rf3, rf4, rf5, rf6, rf7, rf8, rf9, rf10, rf11, rf12, rf13, rf14, rf15⟩ := frozen16 kr
 obtain ⟨xc0, xc1, xc2, xc3, xc4, xc5, xc6, xc7, xc8, xc9, xc10, xc11, xc12, xc13, xc14, xc15⟩ := cells16 kx
 obtain ⟨xf0, xf1, xf2, xf3, xf4, xf5, xf6, xf7, xf8, xf9, xf10, xf11, xf12, xf13, xf14, xf15⟩ := frozen16 kx
 have KX := Aside0.mk kx
 have KR := Aside0.mk kr
 clear kx kr
 go_wp2
 have HS := set16 (blk_far (blk_far (blk_far (blk_far (blk_far (blk_far (blk_far (blk_far KR.out (p := ⟨w.heap.size + 1 + 1, 5, none⟩) (by show w.heap.size + 1 ≠ w.heap.size + 1 + 1; omega) (.int .u8 i0)) (p := ⟨w.heap.size + 1 + 1, 6, none⟩) (by show w.heap.size + 1 ≠ w.heap.size + 1 + 1; omega) (.int .u8 i1)) (p := ⟨w.heap.size + 1 + 1, 7, none⟩) (by show w.heap.size + 1 ≠ w.heap.size + 1 + 1; omega) (.int .u8 i2)) (p := ⟨w.heap.size + 1 + 1, 8, none⟩) (by show w.heap.size + 1 ≠ w.heap.size + 1 + 1; omega) (.int .u8 i3)) (p := ⟨w.heap.size + 1 + 1, 9, none⟩) (by show w.heap.size + 1 ≠ w.heap.size + 1 + 1; omega) (.int .u8 i4)) (p := ⟨w.heap.size + 1 + 1, 10, none⟩) (by show w.heap.size + 1 ≠ w.heap.size + 1 + 1; omega) (.int .u8 i5)) (p := ⟨w.heap.size + 1 + 1, 11, none⟩) (by show w.heap.size + 1 ≠ w.heap.size + 1 + 1; omega) (.int .u8 i6)) (p := ⟨w.heap.size + 1 + 1, 12, none⟩) (by show w.heap.size + 1 ≠ w.heap.size + 1 + 1; omega) (.int .u8 i7)) (.int .i64 0) (.int .i64 4) (.int .u64 0) (.int .i64 0) (.int .i64 0) (.int .u8 i0) (.int .u8 i1) (.int .u8 i2) (.int .u8 i3) (.int .u8 i4) (.int .u8 i5) (.int .u8 i6) (.int .u8 i7) (.int .i16 0) (.int .i16 0) (.slice none 0 0)
 have HC2 : Chg (fun k => w.heap.size ≤ k) w2 ((((((((w2.setCell ⟨w.heap.size + 1 + 1, 5, none⟩ (.int .u8 i0)).setCell ⟨w.heap.size + 1 + 1, 6, none⟩ (.int .u8 i1)).setCell ⟨w.heap.size + 1 + 1, 7, none⟩ (.int .u8 i2)).setCell ⟨w.heap.size + 1 + 1, 8, none⟩ (.int .u8 i3)).setCell ⟨w.heap.size + 1 + 1, 9, none⟩ (.int .u8 i4)).setCell ⟨w.heap.size + 1 + 1, 10, none⟩ (.int .u8 i5)).setCell ⟨w.heap.size + 1 + 1, 11, none⟩ (.int .u8 i6)).setCell ⟨w.heap.size + 1 + 1, 12, none⟩ (.int .u8 i7)) := (Chg.setCell (F := fun k => w.heap.size ≤ k) (Chg.setCell (F := fun k => w.heap.size ≤ k) (Chg.setCell (F := fun k => w.heap.size ≤ k) (Chg.setCell (F := fun k => w.heap.size ≤ k) (Chg.setCell (F := fun k => w.heap.size ≤ k) (Chg.setCell (F := fun k => w.heap.size ≤ k) (Chg.setCell (F := fun k => w.heap.size ≤ k) (Chg.setCell (F := fun k => w.heap.size ≤ k) (Chg.refl _ _) (p := ⟨w.heap.size + 1 + 1, 5, none⟩) (Or.inl (by show w.heap.size ≤ w.heap.size + 1 + 1; omega)) _) (p := ⟨w.heap.size + 1 + 1, 6, none⟩) (Or.inl (by show w.heap.size ≤ w.heap.size + 1 + 1; omega)) _) (p := ⟨w.heap.size + 1 + 1, 7, none⟩) (Or.inl (by show w.heap.size ≤ w.heap.size + 1 + 1; omega)) _) (p := ⟨w.heap.size + 1 + 1, 8, none⟩) (Or.inl (by show w.heap.size ≤ w.heap.size + 1 + 1; omega)) _) (p := ⟨w.heap.size + 1 + 1, 9, none⟩) (Or.inl (by show w.heap.size ≤ w.heap.size + 1 + 1; omega)) _) (p := ⟨w.heap.size + 1 + 1, 10, none⟩) (Or.inl (by show w.heap.size ≤ w.heap.size + 1 + 1; omega)) _) (p := ⟨w.heap.size + 1 + 1, 11, none⟩) (Or.inl (by show w.heap.size ≤ w.heap.size + 1 + 1; omega)) _) (p := ⟨w.heap.size + 1 + 1, 12, none⟩) (Or.inl (by show w.heap.size ≤ w.heap.size + 1 + 1; omega)) _)
 refine bodyPost_ret (results_cell_row rfl _ _ (w.heap.size + 1) 46 _ (0, 0) _ rfl HS.1 Try.underlying46 rfl (by kernel_rfl)) rfl ?_
 rw [HID.out]
 exact ⟨rfl, Mt1.cells HGM.out.1 HGM.out.2 HCH.out H.out (HC2.then HS.2 (fun i hi => Or.inl (by have q : i = w.heap.size + 1 := hi; omega)))⟩
set_option maxHeartbeats 8000000 in
set_option maxRecDepth 100000 in
theorem meant1_point (gm gb : Nat) (A : Option Addr) (c : Nat) (l : List Int) (e0 : Int) (y0 y1 : Value) (w : World) (hm : M1 w gm gb A c l e0 y0 y1) (hby : IsBytes l) (hgb : gb < w.heap.size) (who kind n i wd b0 b1 b2 b3 b4 b5 b6 b7 x y : Int) (A' : Option Addr) (m c' : Nat) (hk : kindOf kind = 5) :
 Calls Try.prog 35 #[.pointer (some ⟨gm, 2, none⟩), .agg (thing who kind n i wd b0 b1 b2 b3 b4 b5 b6 b7 x y (.slice A' m c'))] w fun e w' => e = .returned (.agg (thing 0 5 0 0 0 0 0 0 0 0 0 0 0 (pointR l e0).1.1 (pointR l e0).1.2 (.slice none 0 0))) ∧ Mt1 gm gb (pointR l e0).2.1 (pointR l e0).2.2 y0 y1 w w' := by
 have HK := Aside0.mk hk
 have HBY := Aside0.mk hby
 have HGM : Aside0 (gm < w.heap.size ∧ gb < w.heap.size) := ⟨blk_lt hm.blk, hgb⟩
 have HCH : Aside0 (Chg (· = gm) w (((w.alloc (.cells #[Value.int .i64 who, Value.int .i64 kind, Value.int .u64 n, Value.int .i64 i, Value.int .i64 wd, Value.int .u8 b0, Value.int .u8 b1, Value.int .u8 b2, Value.int .u8 b3, Value.int .u8 b4, Value.int .u8 b5, Value.int .u8 b6, Value.int .u8 b7, Value.int .i16 x, Value.int .i16 y, .slice A' m c'] 46)).alloc (.cells #[Value.int .i64 0, Value.int .i64 0, Value.int .u64 0, Value.int .i64 0, Value.int .i64 0, Value.int .u8 0, Value.int .u8 0, Value.int .u8 0, Value.int .u8 0, Value.int .u8 0, Value.int .u8 0, Value.int .u8 0, Value.int .u8 0, Value.int .i16 0, Value.int .i16 0, Value.slice none 0 0] 46)).alloc (.cells #[Value.int .i64 0, Value.int .i64 5, Value.int .u64 0, Value.int .i64 0, Value.int .i64 0, Value.int .u8 0, Value.int .u8 0, Value.int .u8 0, Value.int .u8 0, Value.int .u8 0, Value.int .u8 0, Value.int .u8 0, Value.int .u8 0, Value.int .i16 0, Value.int .i16 0, Value.slice none 0 0] 46))) := ⟨Chg.alloc (Chg.alloc (Chg.alloc (Chg.refl _ _) _) _) _⟩
 have HKR : Aside0 (M1 (((w.alloc (.cells #[Value.int .i64 who, Value.int .i64 kind, Value.int .u64 n, Value.int .i64 i, Value.int .i64 wd, Value.int .u8 b0, Value.int .u8 b1, Value.int .u8 b2, Value.int .u8 b3, Value.int .u8 b4, Value.int .u8 b5, Value.int .u8 b6, Value.int .u8 b7, Value.int .i16 x, Value.int .i16 y, .slice A' m c'] 46)).alloc (.cells #[Value.int .i64 0, Value.int .i64 0, Value.int .u64 0, Value.int .i64 0, Value.int .i64 0, Value.int .u8 0, Value.int .u8 0, Value.int .u8 0, Value.int .u8 0, Value.int .u8 0, Value.int .u8 0, Value.int .u8 0, Value.int .u8 0, Value.int .i16 0, Value.int .i16 0, Value.slice none 0 0] 46)).alloc (.cells #[Value.int .i64 0, Value.int .i64 5, Value.int .u64 0, Value.int .i64 0, Value.int .i64 0, Value.int .u8 0, Value.int .u8 0, Value.int .u8 0, Value.int .u8 0, Value.int .u8 0, Value.int .u8 0, Value.int .u8 0, Value.int .u8 0, Value.int .i16 0, Value.int .i16 0, Value.slice none 0 0] 46)) gm gb A c l e0 y0 y1) := ⟨hm.keep (Chg.alloc (F := fun _ => False) (Chg.alloc (Chg.alloc (Chg.refl _ _) _) _) _) (fun q => q) (fun q => q)⟩
 clear hm hk hby hgb
 unfold thing
 go_enter Try.func35, Try.ntmps35
 go_wp2_with fail
 refine (round7_calls kind _).mono ?_
 rintro e w1 ⟨rfl, rfl⟩
 rw [HK.out]
 have hx0 := blk_new ((w.alloc (.cells #[Value.int .i64 who, Value.int .i64 kind, Value.int .u64 n, Value.int .i64 i, Value.int .i64 wd, Value.int .u8 b0, Value.int .u8 b1, Value.int .u8 b2, Value.int .u8 b3, Value.int .u8 b4, Value.int .u8 b5, Value.int .u8 b6, Value.int .u8 b7, Value.int .i16 x, Value.int .i16 y, .slice A' m c'] 46)).alloc (.cells #[Value.int .i64 0, Value.int .i64 0, Value.int .u64 0, Value.int .i64 0, Value.int .i64 0, Value.int .u8 0, Value.int .u8 0, Value.int .u8 0, Value.int .u8 0, Value.int .u8 0, Value.int .u8 0, Value.int .u8 0, Value.int .u8 0, Value.int .i16 0, Value.int .i16 0, Value.slice none 0 0] 46)) (.cells #[Value.int .i64 0, Value.int .i64 5, Value.int .u64 0, Value.int .i64 0, Value.int .i64 0, Value.int .u8 0, Value.int .u8 0, Value.int .u8 0, Value.int .u8 0, Value.int .u8 0, Value.int .u8 0, Value.int .u8 0, Value.int .u8 0, Value.int .i16 0, Value.int .i16 0, Value.slice none 0 0] 46)
 have hr0 := blk_alloc (blk_new (w.alloc (.cells #[Value.int .i64 who, Value.int .i64 kind, Value.int .u64 n, Value.int .i64 i, Value.int .i64 wd, Value.int .u8 b0, Value.int .u8 b1, Value.int .u8 b2, Value.int .u8 b3, Value.int .u8 b4, Value.int .u8 b5, Value.int .u8 b6, Value.int .u8 b7, Value.int .i16 x, Value.int .i16 y, .slice A' m c'] 46)) (.cells #[Value.int .i64 0, Value.int .i64 0, Value.int .u64 0, Value.int .i64 0, Value.int .i64 0, Value.int .u8 0, Value.int .u8 0, Value.int .u8 0, Value.int .u8 0, Value.int .u8 0, Value.int .u8 0, Value.int .u8 0, Value.int .u8 0, Value.int .i16 0, Value.int .i16 0, Value.slice none 0 0] 46)) (.cells #[Value.int .i64 0, Value.int .i64 5, Value.int .u64 0, Value.int .i64 0, Value.int .i64 0, Value.int .u8 0, Value.int .u8 0, Value.int .u8 0, Value.int .u8 0, Value.int .u8 0, Value.int .u8 0, Value.int .u8 0, Value.int .u8 0, Value.int .i16 0, Value.int .i16 0, Value.slice none 0 0] 46)
 rw [World.size_alloc, World.size_alloc] at hx0
 rw [World.size_alloc] at hr0
 have HX0 := Aside0.mk hx0
 have HR0 := Aside0.mk hr0
 clear hx0 hr0
 go_wp2_with fail
 refine (mpoint1 gm gb A c l e0 y0 y1 _ HKR.out HBY.out (by rw [World.size_alloc, World.size_alloc, World.size_alloc]; have := HGM.out.2; omega)).mono ?_
 rintro e w2 ⟨rfl, h⟩
 have H := Aside0.mk h
 have hg : gm < w.heap.size := HGM.out.1
 have kx := (h.choose_spec.choose_spec.2.block _ (blk_lt HX0.out) (by omega)).trans HX0.out
 have kr := (h.choose_spec.choose_spec.2.block _ (blk_lt HR0.out) (by omega)).trans HR0.out
 clear hg h
 obtain ⟨rc0, rc1, rc2, rc3, rc4, rc5, rc6, rc7, rc8, rc9, rc10, rc11, rc12, rc13, rc14, rc15⟩ := cells16 kr
 obtain ⟨rf0, rf1, rf2, rf3, rf4, rf5, rf6, rf7, rf8, rf9, rf10, rf11, rf12, rf13, rf14, rf15⟩ := frozen16 kr
 obtain ⟨xc0, xc1, xc2, xc3, xc4, xc5, xc6, xc7, xc8, xc9, xc10, xc11, xc12, xc13, xc14, xc15⟩ := cells16 kx
 obtain ⟨xf0, xf1, xf2, xf3, xf4, xf5, xf6, xf7, xf8, xf9, xf10, xf11, xf12, xf13, xf14, xf15⟩ := frozen16 kx
 have KX := Aside0.mk kx
 have KR := Aside0.mk kr
 clear kx kr
 go_wp2
 have HS := set16 (blk_far (blk_far KR.out (p := ⟨w.heap.size + 1 + 1, 13, none⟩) (by show w.heap.size + 1 ≠ w.heap.size + 1 + 1; omega) (.int .i16 (pointR l e0).1.1)) (p := ⟨w.heap.size + 1 + 1, 14, none⟩) (by show w.heap.size + 1 ≠ w.heap.size + 1 + 1; omega) (.int .i16 (pointR l e0).1.2)) (.int .i64 0) (.int .i64 5) (.int .u64 0) (.int .i64 0) (.int .i64 0) (.int .u8 0) (.int .u8 0) (.int .u8 0) (.int .u8 0) (.int .u8 0) (.int .u8 0) (.int .u8 0) (.int .u8 0) (.int .i16 (pointR l e0).1.1) (.int .i16 (pointR l e0).1.2) (.slice none 0 0)
 have HC2 : Chg (fun k => w.heap.size ≤ k) w2 ((w2.setCell ⟨w.heap.size + 1 + 1, 13, none⟩ (.int .i16 (pointR l e0).1.1)).setCell ⟨w.heap.size + 1 + 1, 14, none⟩ (.int .i16 (pointR l e0).1.2)) := (Chg.setCell (F := fun k => w.heap.size ≤ k) (Chg.setCell (F := fun k => w.heap.size ≤ k) (Chg.refl _ _) (p := ⟨w.heap.size + 1 + 1, 13, none⟩) (Or.inl (by show w.heap.size ≤ w.heap.size + 1 + 1; omega)) _) (p := ⟨w.heap.size + 1 + 1, 14, none⟩) (Or.inl (by show w.heap.size ≤ w.heap.size + 1 + 1; omega)) _)
 refine bodyPost_ret (results_cell_row rfl _ _ (w.heap.size + 1) 46 _ (0, 0) _ rfl HS.1 Try.underlying46 rfl (by kernel_rfl)) rfl ?_
 exact ⟨rfl, Mt1.cells HGM.out.1 HGM.out.2 HCH.out H.out (HC2.then HS.2 (fun i hi => Or.inl (by have q : i = w.heap.size + 1 := hi; omega)))⟩
set_option maxHeartbeats 8000000 in
set_option maxRecDepth 100000 in
theorem meant1_text (gm gb : Nat) (A : Option Addr) (c : Nat) (l : List Int) (e0 : Int) (y0 y1 : Value) (w : World) (hm : M1 w gm gb A c l e0 y0 y1) (hby : IsBytes l) (hgb : gb < w.heap.size) (who kind n i wd b0 b1 b2 b3 b4 b5 b6 b7 x y : Int) (hwd : wd ≤ 9223372036854775807) (A' : Option Addr) (m c' : Nat) (hk : kindOf kind = 6) :
 Calls Try.prog 35 #[.pointer (some ⟨gm, 2, none⟩), .agg (thing who kind n i wd b0 b1 b2 b3 b4 b5 b6 b7 x y (.slice A' m c'))] w fun e w' => ∃ v', e = .returned (.agg (thing 0 6 0 0 0 0 0 0 0 0 0 0 0 0 0 v')) ∧ Mt1 gm gb (textR wd l e0).2.1 (textR wd l e0).2.2 y0 y1 w w' ∧ ∃ A' c', v' = .slice A' (textR wd l e0).1.length c' ∧ (textR wd l e0).1.length ≤ c' ∧ Kd.C (Kd.int .u8) w' A' (textR wd l e0).1.length (textR wd l e0).1 ∧ (∀ a, A' = some a → w.heap.size ≤ a.block) := by
 have HK := Aside0.mk hk
 have HBY := Aside0.mk hby
 have HGM : Aside0 (gm < w.heap.size ∧ gb < w.heap.size) := ⟨blk_lt hm.blk, hgb⟩
 have HCH : Aside0 (Chg (· = gm) w (((w.alloc (.cells #[Value.int .i64 who, Value.int .i64 kind, Value.int .u64 n, Value.int .i64 i, Value.int .i64 wd, Value.int .u8 b0, Value.int .u8 b1, Value.int .u8 b2, Value.int .u8 b3, Value.int .u8 b4, Value.int .u8 b5, Value.int .u8 b6, Value.int .u8 b7, Value.int .i16 x, Value.int .i16 y, .slice A' m c'] 46)).alloc (.cells #[Value.int .i64 0, Value.int .i64 0, Value.int .u64 0, Value.int .i64 0, Value.int .i64 0, Value.int .u8 0, Value.int .u8 0, Value.int .u8 0, Value.int .u8 0, Value.int .u8 0, Value.int .u8 0, Value.int .u8 0, Value.int .u8 0, Value.int .i16 0, Value.int .i16 0, Value.slice none 0 0] 46)).alloc (.cells #[Value.int .i64 0, Value.int .i64 6, Value.int .u64 0, Value.int .i64 0, Value.int .i64 0, Value.int .u8 0, Value.int .u8 0, Value.int .u8 0, Value.int .u8 0, Value.int .u8 0, Value.int .u8 0, Value.int .u8 0, Value.int .u8 0, Value.int .i16 0, Value.int .i16 0, Value.slice none 0 0] 46))) := ⟨Chg.alloc (Chg.alloc (Chg.alloc (Chg.refl _ _) _) _) _⟩
 have HKR : Aside0 (M1 (((w.alloc (.cells #[Value.int .i64 who, Value.int .i64 kind, Value.int .u64 n, Value.int .i64 i, Value.int .i64 wd, Value.int .u8 b0, Value.int .u8 b1, Value.int .u8 b2, Value.int .u8 b3, Value.int .u8 b4, Value.int .u8 b5, Value.int .u8 b6, Value.int .u8 b7, Value.int .i16 x, Value.int .i16 y, .slice A' m c'] 46)).alloc (.cells #[Value.int .i64 0, Value.int .i64 0, Value.int .u64 0, Value.int .i64 0, Value.int .i64 0, Value.int .u8 0, Value.int .u8 0, Value.int .u8 0, Value.int .u8 0, Value.int .u8 0, Value.int .u8 0, Value.int .u8 0, Value.int .u8 0, Value.int .i16 0, Value.int .i16 0, Value.slice none 0 0] 46)).alloc (.cells #[Value.int .i64 0, Value.int .i64 6, Value.int .u64 0, Value.int .i64 0, Value.int .i64 0, Value.int .u8 0, Value.int .u8 0, Value.int .u8 0, Value.int .u8 0, Value.int .u8 0, Value.int .u8 0, Value.int .u8 0, Value.int .u8 0, Value.int .i16 0, Value.int .i16 0, Value.slice none 0 0] 46)) gm gb A c l e0 y0 y1) := ⟨hm.keep (Chg.alloc (F := fun _ => False) (Chg.alloc (Chg.alloc (Chg.refl _ _) _) _) _) (fun q => q) (fun q => q)⟩
 have HWD := Aside0.mk hwd
 have HTL : Aside0 ((textR wd l e0).1.length ≤ 140737488355328) := ⟨Nat.le_trans textR_len hm.rest.len⟩
 clear hm hk hby hgb hwd
 unfold thing
 go_enter Try.func35, Try.ntmps35
 go_wp2_with fail
 refine (round7_calls kind _).mono ?_
 rintro e w1 ⟨rfl, rfl⟩
 rw [HK.out]
 have hx0 := blk_new ((w.alloc (.cells #[Value.int .i64 who, Value.int .i64 kind, Value.int .u64 n, Value.int .i64 i, Value.int .i64 wd, Value.int .u8 b0, Value.int .u8 b1, Value.int .u8 b2, Value.int .u8 b3, Value.int .u8 b4, Value.int .u8 b5, Value.int .u8 b6, Value.int .u8 b7, Value.int .i16 x, Value.int .i16 y, .slice A' m c'] 46)).alloc (.cells #[Value.int .i64 0, Value.int .i64 0, Value.int .u64 0, Value.int .i64 0, Value.int .i64 0, Value.int .u8 0, Value.int .u8 0, Value.int .u8 0, Value.int .u8 0, Value.int .u8 0, Value.int .u8 0, Value.int .u8 0, Value.int .u8 0, Value.int .i16 0, Value.int .i16 0, Value.slice none 0 0] 46)) (.cells #[Value.int .i64 0, Value.int .i64 6, Value.int .u64 0, Value.int .i64 0, Value.int .i64 0, Value.int .u8 0, Value.int .u8 0, Value.int .u8 0, Value.int .u8 0, Value.int .u8 0, Value.int .u8 0, Value.int .u8 0, Value.int .u8 0, Value.int .i16 0, Value.int .i16 0, Value.slice none 0 0] 46)
 have hr0 := blk_alloc (blk_new (w.alloc (.cells #[Value.int .i64 who, Value.int .i64 kind, Value.int .u64 n, Value.int .i64 i, Value.int .i64 wd, Value.int .u8 b0, Value.int .u8 b1, Value.int .u8 b2, Value.int .u8 b3, Value.int .u8 b4, Value.int .u8 b5, Value.int .u8 b6, Value.int .u8 b7, Value.int .i16 x, Value.int .i16 y, .slice A' m c'] 46)) (.cells #[Value.int .i64 0, Value.int .i64 0, Value.int .u64 0, Value.int .i64 0, Value.int .i64 0, Value.int .u8 0, Value.int .u8 0, Value.int .u8 0, Value.int .u8 0, Value.int .u8 0, Value.int .u8 0, Value.int .u8 0, Value.int .u8 0, Value.int .i16 0, Value.int .i16 0, Value.slice none 0 0] 46)) (.cells #[Value.int .i64 0, Value.int .i64 6, Value.int .u64 0, Value.int .i64 0, Value.int .i64 0, Value.int .u8 0, Value.int .u8 0, Value.int .u8 0, Value.int .u8 0, Value.int .u8 0, Value.int .u8 0, Value.int .u8 0, Value.int .u8 0, Value.int .i16 0, Value.int .i16 0, Value.slice none 0 0] 46)
 rw [World.size_alloc, World.size_alloc] at hx0
 rw [World.size_alloc] at hr0
 have HX0 := Aside0.mk hx0
 have HR0 := Aside0.mk hr0
 clear hx0 hr0
 have HT0 := Aside0.mk (blk_alloc (blk_alloc (blk_new w (.cells #[Value.int .i64 who, Value.int .i64 kind, Value.int .u64 n, Value.int .i64 i, Value.int .i64 wd, Value.int .u8 b0, Value.int .u8 b1, Value.int .u8 b2, Value.int .u8 b3, Value.int .u8 b4, Value.int .u8 b5, Value.int .u8 b6, Value.int .u8 b7, Value.int .i16 x, Value.int .i16 y, .slice A' m c'] 46)) (.cells #[Value.int .i64 0, Value.int .i64 0, Value.int .u64 0, Value.int .i64 0, Value.int .i64 0, Value.int .u8 0, Value.int .u8 0, Value.int .u8 0, Value.int .u8 0, Value.int .u8 0, Value.int .u8 0, Value.int .u8 0, Value.int .u8 0, Value.int .i16 0, Value.int .i16 0, Value.slice none 0 0] 46)) (.cells #[Value.int .i64 0, Value.int .i64 6, Value.int .u64 0, Value.int .i64 0, Value.int .i64 0, Value.int .u8 0, Value.int .u8 0, Value.int .u8 0, Value.int .u8 0, Value.int .u8 0, Value.int .u8 0, Value.int .u8 0, Value.int .u8 0, Value.int .i16 0, Value.int .i16 0, Value.slice none 0 0] 46))
 go_wp2_with fail
 refine (mtext1 gm gb A c l e0 y0 y1 _ HKR.out HBY.out wd HWD.out).mono ?_
 rintro e w2 ⟨rfl, h⟩
 have H := Aside0.mk h
 have hg : gm < w.heap.size := HGM.out.1
 have kx := (h.choose_spec.choose_spec.2.block _ (blk_lt HX0.out) (by omega)).trans HX0.out
 have kr := (h.choose_spec.choose_spec.2.block _ (blk_lt HR0.out) (by omega)).trans HR0.out
 have kt := (h.choose_spec.choose_spec.2.block _ (blk_lt HT0.out) (by omega)).trans HT0.out
 clear hg h
 have hsz : w.heap.size + 3 ≤ w2.heap.size := by have := blk_lt kx; omega
 have kt := (Lib.bytesWorld_at_old w2 5 (strOfNums (textR wd l e0).1) _ (by omega)).trans kt
 have kx := (Lib.bytesWorld_at_old w2 5 (strOfNums (textR wd l e0).1) _ (by omega)).trans kx
 have kr := (Lib.bytesWorld_at_old w2 5 (strOfNums (textR wd l e0).1) _ (by omega)).trans kr
 have htb := text_bytes w2 (textR wd l e0).1 (textR_bytes HBY.out) (by have := HTL.out; omega)
 have HTB := Aside0.mk htb
 clear htb
 have HSZ := Aside0.mk hsz
 clear hsz
 have kb := fun W => print_bytes (P := Try.prog) 9 22 5 Try.underlying9 Try.underlying22 Try.underlying5 (strOfNums (textR wd l e0).1) W
 obtain ⟨rc0, rc1, rc2, rc3, rc4, rc5, rc6, rc7, rc8, rc9, rc10, rc11, rc12, rc13, rc14, rc15⟩ := cells16 kr
 obtain ⟨rf0, rf1, rf2, rf3, rf4, rf5, rf6, rf7, rf8, rf9, rf10, rf11, rf12, rf13, rf14, rf15⟩ := frozen16 kr
 obtain ⟨xc0, xc1, xc2, xc3, xc4, xc5, xc6, xc7, xc8, xc9, xc10, xc11, xc12, xc13, xc14, xc15⟩ := cells16 kx
 obtain ⟨xf0, xf1, xf2, xf3, xf4, xf5, xf6, xf7, xf8, xf9, xf10, xf11, xf12, xf13, xf14, xf15⟩ := frozen16 kx
 have KX := Aside0.mk kx
 have KR := Aside0.mk kr
 clear kx kr kt
 go_wp2
 have HS := set16 (blk_far KR.out (p := ⟨w.heap.size + 1 + 1, 15, none⟩) (by show w.heap.size + 1 ≠ w.heap.size + 1 + 1; omega) (.slice (some ⟨w2.heap.size, 0, none⟩) (strOfNums (textR wd l e0).1).size (grownCap w2 (strOfNums (textR wd l e0).1).size 0 5))) (.int .i64 0) (.int .i64 6) (.int .u64 0) (.int .i64 0) (.int .i64 0) (.int .u8 0) (.int .u8 0) (.int .u8 0) (.int .u8 0) (.int .u8 0) (.int .u8 0) (.int .u8 0) (.int .u8 0) (.int .i16 0) (.int .i16 0) (.slice (some ⟨w2.heap.size, 0, none⟩) (strOfNums (textR wd l e0).1).size (grownCap w2 (strOfNums (textR wd l e0).1).size 0 5))
 have HC2 : Chg (fun k => w.heap.size ≤ k) (Lib.bytesWorld w2 5 (strOfNums (textR wd l e0).1)) ((Lib.bytesWorld w2 5 (strOfNums (textR wd l e0).1)).setCell ⟨w.heap.size + 1 + 1, 15, none⟩ (.slice (some ⟨w2.heap.size, 0, none⟩) (strOfNums (textR wd l e0).1).size (grownCap w2 (strOfNums (textR wd l e0).1).size 0 5))) := (Chg.setCell (F := fun k => w.heap.size ≤ k) (Chg.refl _ _) (p := ⟨w.heap.size + 1 + 1, 15, none⟩) (Or.inl (by show w.heap.size ≤ w.heap.size + 1 + 1; omega)) _)
 refine bodyPost_ret (results_cell_row rfl _ _ (w.heap.size + 1) 46 _ (0, 0) _ rfl HS.1 Try.underlying46 rfl (by kernel_rfl)) rfl ?_
 have HC0 : Chg (fun k => w.heap.size ≤ k) w2 (Lib.bytesWorld w2 5 (strOfNums (textR wd l e0).1)) := Chg.of_below (bytes_below (Below.refl _ _) (Nat.le_refl _) _ _)
 have HC3 := HC2.then HS.2 (fun i hi => Or.inl (by have q : i = w.heap.size + 1 := hi; omega))
 refine ⟨_, rfl, Mt1.cells HGM.out.1 HGM.out.2 HCH.out H.out (HC0.trans HC3), _, _, by rw [strOfNums_size], ?_, ?_, ?_⟩
 · exact grownCap_ge _ _ _ _
 · refine C_chg (F := fun _ => False) HTB.out ?_
   have h1 := HSZ.out
   have hnb := Lib.bytesWorld_size w2 5 (strOfNums (textR wd l e0).1)
   have HCx : Chg (fun k => k = w.heap.size + 1 + 1) (Lib.bytesWorld w2 5 (strOfNums (textR wd l e0).1)) ((Lib.bytesWorld w2 5 (strOfNums (textR wd l e0).1)).setCell ⟨w.heap.size + 1 + 1, 15, none⟩ (.slice (some ⟨w2.heap.size, 0, none⟩) (strOfNums (textR wd l e0).1).size (grownCap w2 (strOfNums (textR wd l e0).1).size 0 5))) := Chg.setCell (F := fun k => k = w.heap.size + 1 + 1) (Chg.refl _ _) (p := ⟨w.heap.size + 1 + 1, 15, none⟩) (Or.inl rfl) _
   rw [HS.2.block w2.heap.size (by have := HCx.size; omega) (by omega)]
   exact HCx.block w2.heap.size (by omega) (by omega)
 · intro a ha
   cases ha
   have := HSZ.out
   show w.heap.size ≤ w2.heap.size
   omega
theorem meant1_all (gm gb : Nat) (A : Option Addr) (c : Nat) (l : List Int) (e0 : Int) (y0 y1 : Value) (w : World) (hm : M1 w gm gb A c l e0 y0 y1) (hby : IsBytes l) (hgb : gb < w.heap.size) (t : Th) (hw : t.w ≤ 9223372036854775807) (A' : Option Addr) (c' : Nat) :
 Calls Try.prog 35 #[.pointer (some ⟨gm, 2, none⟩), .agg (thingOf t A' c')] w fun e w' => ∃ A' c', e = .returned (.agg (thingOf (tookR t l e0).1 A' c')) ∧ Mt1 gm gb (tookR t l e0).2.1 (tookR t l e0).2.2 y0 y1 w w' ∧ (tookR t l e0).1.t.length ≤ c' ∧ Kd.C (Kd.int .u8) w' A' (tookR t l e0).1.t.length (tookR t l e0).1.t ∧ (∀ a, A' = some a → w.heap.size ≤ a.block) := by
 rcases kind_cases t.kind with h | h | h | h | h | h | h
 · have e1 : tookR t l e0 = ((0, 0, (byteR l e0).1, 0, 0, zero8, (0, 0), []), (byteR l e0).2) := by simp [tookR, h]
   rw [e1]
   refine (meant1_byte gm gb A c l e0 y0 y1 w hm hby hgb _ _ _ _ _ _ _ _ _ _ _ _ _ _ _ _ _ _ h).mono ?_
   rintro e w' ⟨rfl, k⟩
   exact ⟨none, 0, rfl, k, Nat.le_refl _, C_none, fun a ha => by cases ha⟩
 · have e1 : tookR t l e0 = ((0, 1, (fixedR t.w l e0).1, 0, t.w, zero8, (0, 0), []), (fixedR t.w l e0).2) := by simp [tookR, h]
   rw [e1]
   refine (meant1_fixed gm gb A c l e0 y0 y1 w hm hby hgb _ _ _ _ _ _ _ _ _ _ _ _ _ _ _ _ _ _ h).mono ?_
   rintro e w' ⟨rfl, k⟩
   exact ⟨none, 0, rfl, k, Nat.le_refl _, C_none, fun a ha => by cases ha⟩
 · have e1 : tookR t l e0 = ((0, 2, ((varR l e0).1 : Int), 0, 0, zero8, (0, 0), []), (varR l e0).2) := by simp [tookR, h]
   rw [e1]
   refine (meant1_var gm gb A c l e0 y0 y1 w hm hby hgb _ _ _ _ _ _ _ _ _ _ _ _ _ _ _ _ _ _ h).mono ?_
   rintro e w' ⟨rfl, k⟩
   exact ⟨none, 0, rfl, k, Nat.le_refl _, C_none, fun a ha => by cases ha⟩
 · have e1 : tookR t l e0 = ((0, 3, 0, backI (varR l e0).1, 0, zero8, (0, 0), []), (varR l e0).2) := by simp [tookR, h]
   rw [e1]
   refine (meant1_int gm gb A c l e0 y0 y1 w hm hby hgb _ _ _ _ _ _ _ _ _ _ _ _ _ _ _ _ _ _ h).mono ?_
   rintro e w' ⟨rfl, k⟩
   exact ⟨none, 0, rfl, k, Nat.le_refl _, C_none, fun a ha => by cases ha⟩
 · have e1 : tookR t l e0 = ((0, 4, 0, 0, 0, (idR l e0).1, (0, 0), []), (idR l e0).2) := by simp [tookR, h]
   rw [e1]
   refine (meant1_id gm gb A c l e0 y0 y1 w hm hby hgb _ _ _ _ _ _ _ _ _ _ _ _ _ _ _ _ _ _ h).mono ?_
   rintro e w' ⟨rfl, k⟩
   exact ⟨none, 0, rfl, k, Nat.le_refl _, C_none, fun a ha => by cases ha⟩
 · have e1 : tookR t l e0 = ((0, 5, 0, 0, 0, zero8, (pointR l e0).1, []), (pointR l e0).2) := by simp [tookR, h]
   rw [e1]
   refine (meant1_point gm gb A c l e0 y0 y1 w hm hby hgb _ _ _ _ _ _ _ _ _ _ _ _ _ _ _ _ _ _ h).mono ?_
   rintro e w' ⟨rfl, k⟩
   exact ⟨none, 0, rfl, k, Nat.le_refl _, C_none, fun a ha => by cases ha⟩
 · have e1 : tookR t l e0 = ((0, 6, 0, 0, 0, zero8, (0, 0), (textR t.w l e0).1), (textR t.w l e0).2) := by simp [tookR, h]
   rw [e1]
   refine (meant1_text gm gb A c l e0 y0 y1 w hm hby hgb _ _ _ _ _ _ _ _ _ _ _ _ _ _ _ hw _ _ _ h).mono ?_
   rintro e w' ⟨v', rfl, k, A', c', rfl, k1, k2, k3⟩
   exact ⟨A', c', rfl, k, k1, k2, k3⟩
end Go.Proofs.Ytjijmikpoenbcaa.Codec
