/- What 'took' answers of a reader that is none, or that nobody made. Written by wip/gen/tookdead.py. -/
import Derived.Test.YtjijmikpoenbcaaC16
import Derived.Test.YtjijmikpoenbcaaRDead
import Derived.Test.YtjijmikpoenbcaaStays
namespace Go.Proofs.Ytjijmikpoenbcaa.Codec
open Go.RowKit Go.Proofs.YtjijmikpoenbcaaW.PrintWords Go.Proofs.YtjijmikpoenbcaaW.PrintLast Go.Proofs.YtjijmikpoenbcaaW.PrintMore
set_option linter.unusedVariables false
set_option linter.unusedSimpArgs false
set_option maxHeartbeats 8000000 in
set_option maxRecDepth 100000 in
theorem tookD_byte (pr : Value) (w : World) (hd : DeadR w pr) (who kind n i wd b0 b1 b2 b3 b4 b5 b6 b7 x y : Int) (A : Option Addr) (m c : Nat) (hk : kindOf kind = 0) :
 Calls Try.prog 34 #[pr, .agg (thing who kind n i wd b0 b1 b2 b3 b4 b5 b6 b7 x y (.slice A m c))] w fun e w' => e = .returned (.agg (thing 0 0 0 0 0 0 0 0 0 0 0 0 0 0 0 (.slice none 0 0))) ∧ Below w.heap.size w w' := by
 have HK := Aside0.mk hk
 have HCH : Aside0 (Below w.heap.size w (((w.alloc (.cells #[Value.int .i64 who, Value.int .i64 kind, Value.int .u64 n, Value.int .i64 i, Value.int .i64 wd, Value.int .u8 b0, Value.int .u8 b1, Value.int .u8 b2, Value.int .u8 b3, Value.int .u8 b4, Value.int .u8 b5, Value.int .u8 b6, Value.int .u8 b7, Value.int .i16 x, Value.int .i16 y, .slice A m c] 46)).alloc (.cells #[Value.int .i64 0, Value.int .i64 0, Value.int .u64 0, Value.int .i64 0, Value.int .i64 0, Value.int .u8 0, Value.int .u8 0, Value.int .u8 0, Value.int .u8 0, Value.int .u8 0, Value.int .u8 0, Value.int .u8 0, Value.int .u8 0, Value.int .i16 0, Value.int .i16 0, Value.slice none 0 0] 46)).alloc (.cells #[Value.int .i64 0, Value.int .i64 0, Value.int .u64 0, Value.int .i64 0, Value.int .i64 0, Value.int .u8 0, Value.int .u8 0, Value.int .u8 0, Value.int .u8 0, Value.int .u8 0, Value.int .u8 0, Value.int .u8 0, Value.int .u8 0, Value.int .i16 0, Value.int .i16 0, Value.slice none 0 0] 46))) := ⟨below_alloc (below_alloc (below_alloc (Below.refl _ _) _) _) _⟩
 have HDD := Aside0.mk (hd.below HCH.out)
 clear hk hd
 unfold thing
 go_enter Try.func34, Try.ntmps34
 go_wp2_with fail
 refine (round7_calls kind _).mono ?_
 rintro e w1 ⟨rfl, rfl⟩
 rw [HK.out]
 have hx0 := blk_new ((w.alloc (.cells #[Value.int .i64 who, Value.int .i64 kind, Value.int .u64 n, Value.int .i64 i, Value.int .i64 wd, Value.int .u8 b0, Value.int .u8 b1, Value.int .u8 b2, Value.int .u8 b3, Value.int .u8 b4, Value.int .u8 b5, Value.int .u8 b6, Value.int .u8 b7, Value.int .i16 x, Value.int .i16 y, .slice A m c] 46)).alloc (.cells #[Value.int .i64 0, Value.int .i64 0, Value.int .u64 0, Value.int .i64 0, Value.int .i64 0, Value.int .u8 0, Value.int .u8 0, Value.int .u8 0, Value.int .u8 0, Value.int .u8 0, Value.int .u8 0, Value.int .u8 0, Value.int .u8 0, Value.int .i16 0, Value.int .i16 0, Value.slice none 0 0] 46)) (.cells #[Value.int .i64 0, Value.int .i64 0, Value.int .u64 0, Value.int .i64 0, Value.int .i64 0, Value.int .u8 0, Value.int .u8 0, Value.int .u8 0, Value.int .u8 0, Value.int .u8 0, Value.int .u8 0, Value.int .u8 0, Value.int .u8 0, Value.int .i16 0, Value.int .i16 0, Value.slice none 0 0] 46)
 have hr0 := blk_alloc (blk_new (w.alloc (.cells #[Value.int .i64 who, Value.int .i64 kind, Value.int .u64 n, Value.int .i64 i, Value.int .i64 wd, Value.int .u8 b0, Value.int .u8 b1, Value.int .u8 b2, Value.int .u8 b3, Value.int .u8 b4, Value.int .u8 b5, Value.int .u8 b6, Value.int .u8 b7, Value.int .i16 x, Value.int .i16 y, .slice A m c] 46)) (.cells #[Value.int .i64 0, Value.int .i64 0, Value.int .u64 0, Value.int .i64 0, Value.int .i64 0, Value.int .u8 0, Value.int .u8 0, Value.int .u8 0, Value.int .u8 0, Value.int .u8 0, Value.int .u8 0, Value.int .u8 0, Value.int .u8 0, Value.int .i16 0, Value.int .i16 0, Value.slice none 0 0] 46)) (.cells #[Value.int .i64 0, Value.int .i64 0, Value.int .u64 0, Value.int .i64 0, Value.int .i64 0, Value.int .u8 0, Value.int .u8 0, Value.int .u8 0, Value.int .u8 0, Value.int .u8 0, Value.int .u8 0, Value.int .u8 0, Value.int .u8 0, Value.int .i16 0, Value.int .i16 0, Value.slice none 0 0] 46)
 rw [World.size_alloc, World.size_alloc] at hx0
 rw [World.size_alloc] at hr0
 have HX0 := Aside0.mk hx0
 have HR0 := Aside0.mk hr0
 clear hx0 hr0
 have HT0 := Aside0.mk (blk_alloc (blk_alloc (blk_new w (.cells #[Value.int .i64 who, Value.int .i64 kind, Value.int .u64 n, Value.int .i64 i, Value.int .i64 wd, Value.int .u8 b0, Value.int .u8 b1, Value.int .u8 b2, Value.int .u8 b3, Value.int .u8 b4, Value.int .u8 b5, Value.int .u8 b6, Value.int .u8 b7, Value.int .i16 x, Value.int .i16 y, .slice A m c] 46)) (.cells #[Value.int .i64 0, Value.int .i64 0, Value.int .u64 0, Value.int .i64 0, Value.int .i64 0, Value.int .u8 0, Value.int .u8 0, Value.int .u8 0, Value.int .u8 0, Value.int .u8 0, Value.int .u8 0, Value.int .u8 0, Value.int .u8 0, Value.int .i16 0, Value.int .i16 0, Value.slice none 0 0] 46)) (.cells #[Value.int .i64 0, Value.int .i64 0, Value.int .u64 0, Value.int .i64 0, Value.int .i64 0, Value.int .u8 0, Value.int .u8 0, Value.int .u8 0, Value.int .u8 0, Value.int .u8 0, Value.int .u8 0, Value.int .u8 0, Value.int .u8 0, Value.int .i16 0, Value.int .i16 0, Value.slice none 0 0] 46))
 go_wp2_with fail
 refine (rByte_dead pr _ HDD.out).mono ?_
 rintro e w2 ⟨rfl, hw⟩
 have hb : Below (((w.alloc (.cells #[Value.int .i64 who, Value.int .i64 kind, Value.int .u64 n, Value.int .i64 i, Value.int .i64 wd, Value.int .u8 b0, Value.int .u8 b1, Value.int .u8 b2, Value.int .u8 b3, Value.int .u8 b4, Value.int .u8 b5, Value.int .u8 b6, Value.int .u8 b7, Value.int .i16 x, Value.int .i16 y, .slice A m c] 46)).alloc (.cells #[Value.int .i64 0, Value.int .i64 0, Value.int .u64 0, Value.int .i64 0, Value.int .i64 0, Value.int .u8 0, Value.int .u8 0, Value.int .u8 0, Value.int .u8 0, Value.int .u8 0, Value.int .u8 0, Value.int .u8 0, Value.int .u8 0, Value.int .i16 0, Value.int .i16 0, Value.slice none 0 0] 46)).alloc (.cells #[Value.int .i64 0, Value.int .i64 0, Value.int .u64 0, Value.int .i64 0, Value.int .i64 0, Value.int .u8 0, Value.int .u8 0, Value.int .u8 0, Value.int .u8 0, Value.int .u8 0, Value.int .u8 0, Value.int .u8 0, Value.int .u8 0, Value.int .i16 0, Value.int .i16 0, Value.slice none 0 0] 46)).heap.size (((w.alloc (.cells #[Value.int .i64 who, Value.int .i64 kind, Value.int .u64 n, Value.int .i64 i, Value.int .i64 wd, Value.int .u8 b0, Value.int .u8 b1, Value.int .u8 b2, Value.int .u8 b3, Value.int .u8 b4, Value.int .u8 b5, Value.int .u8 b6, Value.int .u8 b7, Value.int .i16 x, Value.int .i16 y, .slice A m c] 46)).alloc (.cells #[Value.int .i64 0, Value.int .i64 0, Value.int .u64 0, Value.int .i64 0, Value.int .i64 0, Value.int .u8 0, Value.int .u8 0, Value.int .u8 0, Value.int .u8 0, Value.int .u8 0, Value.int .u8 0, Value.int .u8 0, Value.int .u8 0, Value.int .i16 0, Value.int .i16 0, Value.slice none 0 0] 46)).alloc (.cells #[Value.int .i64 0, Value.int .i64 0, Value.int .u64 0, Value.int .i64 0, Value.int .i64 0, Value.int .u8 0, Value.int .u8 0, Value.int .u8 0, Value.int .u8 0, Value.int .u8 0, Value.int .u8 0, Value.int .u8 0, Value.int .u8 0, Value.int .i16 0, Value.int .i16 0, Value.slice none 0 0] 46)) w2 := by rw [hw]; exact Below.refl _ _
 clear hw
 have HB2 := Aside0.mk (below_step HCH.out hb)
 have kx := (hb.block _ (blk_lt HX0.out)).trans HX0.out
 have kr := (hb.block _ (blk_lt HR0.out)).trans HR0.out
 have kt := (hb.block _ (blk_lt HT0.out)).trans HT0.out
 clear hb
 obtain ⟨rc0, rc1, rc2, rc3, rc4, rc5, rc6, rc7, rc8, rc9, rc10, rc11, rc12, rc13, rc14, rc15⟩ := cells16 kr
 obtain ⟨rf0, rf1, rf2, rf3, rf4, rf5, rf6, rf7, rf8, rf9, rf10, rf11, rf12, rf13, rf14, rf15⟩ := frozen16 kr
 obtain ⟨xc0, xc1, xc2, xc3, xc4, xc5, xc6, xc7, xc8, xc9, xc10, xc11, xc12, xc13, xc14, xc15⟩ := cells16 kx
 obtain ⟨xf0, xf1, xf2, xf3, xf4, xf5, xf6, xf7, xf8, xf9, xf10, xf11, xf12, xf13, xf14, xf15⟩ := frozen16 kx
 have KX := Aside0.mk kx
 have KR := Aside0.mk kr
 clear kx kr kt
 go_wp2
 have HS := set16 (blk_far KR.out (p := ⟨w.heap.size + 1 + 1, 2, none⟩) (by show w.heap.size + 1 ≠ w.heap.size + 1 + 1; omega) (.int .u64 0)) (.int .i64 0) (.int .i64 0) (.int .u64 0) (.int .i64 0) (.int .i64 0) (.int .u8 0) (.int .u8 0) (.int .u8 0) (.int .u8 0) (.int .u8 0) (.int .u8 0) (.int .u8 0) (.int .u8 0) (.int .i16 0) (.int .i16 0) (.slice none 0 0)
 have HBB : Below w.heap.size w (w2.setCell ⟨w.heap.size + 1 + 1, 2, none⟩ (.int .u64 0)) := (below_set HB2.out (by omega : w.heap.size ≤ w.heap.size + 1 + 1))
 refine bodyPost_ret (results_cell_row rfl _ _ (w.heap.size + 1) 46 _ (0, 0) _ rfl HS.1 Try.underlying46 rfl (by kernel_rfl)) rfl ?_
 exact ⟨rfl, HBB.trans (HS.2.below HBB.size (fun k hk => by have q : k = w.heap.size + 1 := hk; omega))⟩
set_option maxHeartbeats 8000000 in
set_option maxRecDepth 100000 in
theorem tookD_fixed (pr : Value) (w : World) (hd : DeadR w pr) (who kind n i wd b0 b1 b2 b3 b4 b5 b6 b7 x y : Int) (A : Option Addr) (m c : Nat) (hk : kindOf kind = 1) :
 Calls Try.prog 34 #[pr, .agg (thing who kind n i wd b0 b1 b2 b3 b4 b5 b6 b7 x y (.slice A m c))] w fun e w' => e = .returned (.agg (thing 0 1 0 0 wd 0 0 0 0 0 0 0 0 0 0 (.slice none 0 0))) ∧ Below w.heap.size w w' := by
 have HK := Aside0.mk hk
 have HCH : Aside0 (Below w.heap.size w (((w.alloc (.cells #[Value.int .i64 who, Value.int .i64 kind, Value.int .u64 n, Value.int .i64 i, Value.int .i64 wd, Value.int .u8 b0, Value.int .u8 b1, Value.int .u8 b2, Value.int .u8 b3, Value.int .u8 b4, Value.int .u8 b5, Value.int .u8 b6, Value.int .u8 b7, Value.int .i16 x, Value.int .i16 y, .slice A m c] 46)).alloc (.cells #[Value.int .i64 0, Value.int .i64 0, Value.int .u64 0, Value.int .i64 0, Value.int .i64 0, Value.int .u8 0, Value.int .u8 0, Value.int .u8 0, Value.int .u8 0, Value.int .u8 0, Value.int .u8 0, Value.int .u8 0, Value.int .u8 0, Value.int .i16 0, Value.int .i16 0, Value.slice none 0 0] 46)).alloc (.cells #[Value.int .i64 0, Value.int .i64 1, Value.int .u64 0, Value.int .i64 0, Value.int .i64 0, Value.int .u8 0, Value.int .u8 0, Value.int .u8 0, Value.int .u8 0, Value.int .u8 0, Value.int .u8 0, Value.int .u8 0, Value.int .u8 0, Value.int .i16 0, Value.int .i16 0, Value.slice none 0 0] 46))) := ⟨below_alloc (below_alloc (below_alloc (Below.refl _ _) _) _) _⟩
 have HDD := Aside0.mk (hd.below HCH.out)
 clear hk hd
 unfold thing
 go_enter Try.func34, Try.ntmps34
 go_wp2_with fail
 refine (round7_calls kind _).mono ?_
 rintro e w1 ⟨rfl, rfl⟩
 rw [HK.out]
 have hx0 := blk_new ((w.alloc (.cells #[Value.int .i64 who, Value.int .i64 kind, Value.int .u64 n, Value.int .i64 i, Value.int .i64 wd, Value.int .u8 b0, Value.int .u8 b1, Value.int .u8 b2, Value.int .u8 b3, Value.int .u8 b4, Value.int .u8 b5, Value.int .u8 b6, Value.int .u8 b7, Value.int .i16 x, Value.int .i16 y, .slice A m c] 46)).alloc (.cells #[Value.int .i64 0, Value.int .i64 0, Value.int .u64 0, Value.int .i64 0, Value.int .i64 0, Value.int .u8 0, Value.int .u8 0, Value.int .u8 0, Value.int .u8 0, Value.int .u8 0, Value.int .u8 0, Value.int .u8 0, Value.int .u8 0, Value.int .i16 0, Value.int .i16 0, Value.slice none 0 0] 46)) (.cells #[Value.int .i64 0, Value.int .i64 1, Value.int .u64 0, Value.int .i64 0, Value.int .i64 0, Value.int .u8 0, Value.int .u8 0, Value.int .u8 0, Value.int .u8 0, Value.int .u8 0, Value.int .u8 0, Value.int .u8 0, Value.int .u8 0, Value.int .i16 0, Value.int .i16 0, Value.slice none 0 0] 46)
 have hr0 := blk_alloc (blk_new (w.alloc (.cells #[Value.int .i64 who, Value.int .i64 kind, Value.int .u64 n, Value.int .i64 i, Value.int .i64 wd, Value.int .u8 b0, Value.int .u8 b1, Value.int .u8 b2, Value.int .u8 b3, Value.int .u8 b4, Value.int .u8 b5, Value.int .u8 b6, Value.int .u8 b7, Value.int .i16 x, Value.int .i16 y, .slice A m c] 46)) (.cells #[Value.int .i64 0, Value.int .i64 0, Value.int .u64 0, Value.int .i64 0, Value.int .i64 0, Value.int .u8 0, Value.int .u8 0, Value.int .u8 0, Value.int .u8 0, Value.int .u8 0, Value.int .u8 0, Value.int .u8 0, Value.int .u8 0, Value.int .i16 0, Value.int .i16 0, Value.slice none 0 0] 46)) (.cells #[Value.int .i64 0, Value.int .i64 1, Value.int .u64 0, Value.int .i64 0, Value.int .i64 0, Value.int .u8 0, Value.int .u8 0, Value.int .u8 0, Value.int .u8 0, Value.int .u8 0, Value.int .u8 0, Value.int .u8 0, Value.int .u8 0, Value.int .i16 0, Value.int .i16 0, Value.slice none 0 0] 46)
 rw [World.size_alloc, World.size_alloc] at hx0
 rw [World.size_alloc] at hr0
 have HX0 := Aside0.mk hx0
 have HR0 := Aside0.mk hr0
 clear hx0 hr0
 have HT0 := Aside0.mk (blk_alloc (blk_alloc (blk_new w (.cells #[Value.int .i64 who, Value.int .i64 kind, Value.int .u64 n, Value.int .i64 i, Value.int .i64 wd, Value.int .u8 b0, Value.int .u8 b1, Value.int .u8 b2, Value.int .u8 b3, Value.int .u8 b4, Value.int .u8 b5, Value.int .u8 b6, Value.int .u8 b7, Value.int .i16 x, Value.int .i16 y, .slice A m c] 46)) (.cells #[Value.int .i64 0, Value.int .i64 0, Value.int .u64 0, Value.int .i64 0, Value.int .i64 0, Value.int .u8 0, Value.int .u8 0, Value.int .u8 0, Value.int .u8 0, Value.int .u8 0, Value.int .u8 0, Value.int .u8 0, Value.int .u8 0, Value.int .i16 0, Value.int .i16 0, Value.slice none 0 0] 46)) (.cells #[Value.int .i64 0, Value.int .i64 1, Value.int .u64 0, Value.int .i64 0, Value.int .i64 0, Value.int .u8 0, Value.int .u8 0, Value.int .u8 0, Value.int .u8 0, Value.int .u8 0, Value.int .u8 0, Value.int .u8 0, Value.int .u8 0, Value.int .i16 0, Value.int .i16 0, Value.slice none 0 0] 46))
 go_wp2_with fail
 refine (rFixed_dead pr wd _ HDD.out).mono ?_
 rintro e w2 ⟨rfl, hw⟩
 have hb : Below (((w.alloc (.cells #[Value.int .i64 who, Value.int .i64 kind, Value.int .u64 n, Value.int .i64 i, Value.int .i64 wd, Value.int .u8 b0, Value.int .u8 b1, Value.int .u8 b2, Value.int .u8 b3, Value.int .u8 b4, Value.int .u8 b5, Value.int .u8 b6, Value.int .u8 b7, Value.int .i16 x, Value.int .i16 y, .slice A m c] 46)).alloc (.cells #[Value.int .i64 0, Value.int .i64 0, Value.int .u64 0, Value.int .i64 0, Value.int .i64 0, Value.int .u8 0, Value.int .u8 0, Value.int .u8 0, Value.int .u8 0, Value.int .u8 0, Value.int .u8 0, Value.int .u8 0, Value.int .u8 0, Value.int .i16 0, Value.int .i16 0, Value.slice none 0 0] 46)).alloc (.cells #[Value.int .i64 0, Value.int .i64 1, Value.int .u64 0, Value.int .i64 0, Value.int .i64 0, Value.int .u8 0, Value.int .u8 0, Value.int .u8 0, Value.int .u8 0, Value.int .u8 0, Value.int .u8 0, Value.int .u8 0, Value.int .u8 0, Value.int .i16 0, Value.int .i16 0, Value.slice none 0 0] 46)).heap.size (((w.alloc (.cells #[Value.int .i64 who, Value.int .i64 kind, Value.int .u64 n, Value.int .i64 i, Value.int .i64 wd, Value.int .u8 b0, Value.int .u8 b1, Value.int .u8 b2, Value.int .u8 b3, Value.int .u8 b4, Value.int .u8 b5, Value.int .u8 b6, Value.int .u8 b7, Value.int .i16 x, Value.int .i16 y, .slice A m c] 46)).alloc (.cells #[Value.int .i64 0, Value.int .i64 0, Value.int .u64 0, Value.int .i64 0, Value.int .i64 0, Value.int .u8 0, Value.int .u8 0, Value.int .u8 0, Value.int .u8 0, Value.int .u8 0, Value.int .u8 0, Value.int .u8 0, Value.int .u8 0, Value.int .i16 0, Value.int .i16 0, Value.slice none 0 0] 46)).alloc (.cells #[Value.int .i64 0, Value.int .i64 1, Value.int .u64 0, Value.int .i64 0, Value.int .i64 0, Value.int .u8 0, Value.int .u8 0, Value.int .u8 0, Value.int .u8 0, Value.int .u8 0, Value.int .u8 0, Value.int .u8 0, Value.int .u8 0, Value.int .i16 0, Value.int .i16 0, Value.slice none 0 0] 46)) w2 := by rw [hw]; exact Below.refl _ _
 clear hw
 have HB2 := Aside0.mk (below_step HCH.out hb)
 have kx := (hb.block _ (blk_lt HX0.out)).trans HX0.out
 have kr := (hb.block _ (blk_lt HR0.out)).trans HR0.out
 have kt := (hb.block _ (blk_lt HT0.out)).trans HT0.out
 clear hb
 have tc4 : w2.cell? ⟨w.heap.size, 4, none⟩ = some (.int .i64 wd) := (blk_cell kt 4).trans rfl
 obtain ⟨rc0, rc1, rc2, rc3, rc4, rc5, rc6, rc7, rc8, rc9, rc10, rc11, rc12, rc13, rc14, rc15⟩ := cells16 kr
 obtain ⟨rf0, rf1, rf2, rf3, rf4, rf5, rf6, rf7, rf8, rf9, rf10, rf11, rf12, rf13, rf14, rf15⟩ := frozen16 kr
 obtain ⟨xc0, xc1, xc2, xc3, xc4, xc5, xc6, xc7, xc8, xc9, xc10, xc11, xc12, xc13, xc14, xc15⟩ := cells16 kx
 obtain ⟨xf0, xf1, xf2, xf3, xf4, xf5, xf6, xf7, xf8, xf9, xf10, xf11, xf12, xf13, xf14, xf15⟩ := frozen16 kx
 have KX := Aside0.mk kx
 have KR := Aside0.mk kr
 clear kx kr kt
 go_wp2
 have HS := set16 (blk_far (blk_far KR.out (p := ⟨w.heap.size + 1 + 1, 2, none⟩) (by show w.heap.size + 1 ≠ w.heap.size + 1 + 1; omega) (.int .u64 0)) (p := ⟨w.heap.size + 1 + 1, 4, none⟩) (by show w.heap.size + 1 ≠ w.heap.size + 1 + 1; omega) (.int .i64 wd)) (.int .i64 0) (.int .i64 1) (.int .u64 0) (.int .i64 0) (.int .i64 wd) (.int .u8 0) (.int .u8 0) (.int .u8 0) (.int .u8 0) (.int .u8 0) (.int .u8 0) (.int .u8 0) (.int .u8 0) (.int .i16 0) (.int .i16 0) (.slice none 0 0)
 have HBB : Below w.heap.size w ((w2.setCell ⟨w.heap.size + 1 + 1, 2, none⟩ (.int .u64 0)).setCell ⟨w.heap.size + 1 + 1, 4, none⟩ (.int .i64 wd)) := (below_set (below_set HB2.out (by omega : w.heap.size ≤ w.heap.size + 1 + 1)) (by omega : w.heap.size ≤ w.heap.size + 1 + 1))
 refine bodyPost_ret (results_cell_row rfl _ _ (w.heap.size + 1) 46 _ (0, 0) _ rfl HS.1 Try.underlying46 rfl (by kernel_rfl)) rfl ?_
 exact ⟨rfl, HBB.trans (HS.2.below HBB.size (fun k hk => by have q : k = w.heap.size + 1 := hk; omega))⟩
set_option maxHeartbeats 8000000 in
set_option maxRecDepth 100000 in
theorem tookD_var (pr : Value) (w : World) (hd : DeadR w pr) (who kind n i wd b0 b1 b2 b3 b4 b5 b6 b7 x y : Int) (A : Option Addr) (m c : Nat) (hk : kindOf kind = 2) :
 Calls Try.prog 34 #[pr, .agg (thing who kind n i wd b0 b1 b2 b3 b4 b5 b6 b7 x y (.slice A m c))] w fun e w' => e = .returned (.agg (thing 0 2 0 0 0 0 0 0 0 0 0 0 0 0 0 (.slice none 0 0))) ∧ Below w.heap.size w w' := by
 have HK := Aside0.mk hk
 have HCH : Aside0 (Below w.heap.size w (((w.alloc (.cells #[Value.int .i64 who, Value.int .i64 kind, Value.int .u64 n, Value.int .i64 i, Value.int .i64 wd, Value.int .u8 b0, Value.int .u8 b1, Value.int .u8 b2, Value.int .u8 b3, Value.int .u8 b4, Value.int .u8 b5, Value.int .u8 b6, Value.int .u8 b7, Value.int .i16 x, Value.int .i16 y, .slice A m c] 46)).alloc (.cells #[Value.int .i64 0, Value.int .i64 0, Value.int .u64 0, Value.int .i64 0, Value.int .i64 0, Value.int .u8 0, Value.int .u8 0, Value.int .u8 0, Value.int .u8 0, Value.int .u8 0, Value.int .u8 0, Value.int .u8 0, Value.int .u8 0, Value.int .i16 0, Value.int .i16 0, Value.slice none 0 0] 46)).alloc (.cells #[Value.int .i64 0, Value.int .i64 2, Value.int .u64 0, Value.int .i64 0, Value.int .i64 0, Value.int .u8 0, Value.int .u8 0, Value.int .u8 0, Value.int .u8 0, Value.int .u8 0, Value.int .u8 0, Value.int .u8 0, Value.int .u8 0, Value.int .i16 0, Value.int .i16 0, Value.slice none 0 0] 46))) := ⟨below_alloc (below_alloc (below_alloc (Below.refl _ _) _) _) _⟩
 have HDD := Aside0.mk (hd.below HCH.out)
 clear hk hd
 unfold thing
 go_enter Try.func34, Try.ntmps34
 go_wp2_with fail
 refine (round7_calls kind _).mono ?_
 rintro e w1 ⟨rfl, rfl⟩
 rw [HK.out]
 have hx0 := blk_new ((w.alloc (.cells #[Value.int .i64 who, Value.int .i64 kind, Value.int .u64 n, Value.int .i64 i, Value.int .i64 wd, Value.int .u8 b0, Value.int .u8 b1, Value.int .u8 b2, Value.int .u8 b3, Value.int .u8 b4, Value.int .u8 b5, Value.int .u8 b6, Value.int .u8 b7, Value.int .i16 x, Value.int .i16 y, .slice A m c] 46)).alloc (.cells #[Value.int .i64 0, Value.int .i64 0, Value.int .u64 0, Value.int .i64 0, Value.int .i64 0, Value.int .u8 0, Value.int .u8 0, Value.int .u8 0, Value.int .u8 0, Value.int .u8 0, Value.int .u8 0, Value.int .u8 0, Value.int .u8 0, Value.int .i16 0, Value.int .i16 0, Value.slice none 0 0] 46)) (.cells #[Value.int .i64 0, Value.int .i64 2, Value.int .u64 0, Value.int .i64 0, Value.int .i64 0, Value.int .u8 0, Value.int .u8 0, Value.int .u8 0, Value.int .u8 0, Value.int .u8 0, Value.int .u8 0, Value.int .u8 0, Value.int .u8 0, Value.int .i16 0, Value.int .i16 0, Value.slice none 0 0] 46)
 have hr0 := blk_alloc (blk_new (w.alloc (.cells #[Value.int .i64 who, Value.int .i64 kind, Value.int .u64 n, Value.int .i64 i, Value.int .i64 wd, Value.int .u8 b0, Value.int .u8 b1, Value.int .u8 b2, Value.int .u8 b3, Value.int .u8 b4, Value.int .u8 b5, Value.int .u8 b6, Value.int .u8 b7, Value.int .i16 x, Value.int .i16 y, .slice A m c] 46)) (.cells #[Value.int .i64 0, Value.int .i64 0, Value.int .u64 0, Value.int .i64 0, Value.int .i64 0, Value.int .u8 0, Value.int .u8 0, Value.int .u8 0, Value.int .u8 0, Value.int .u8 0, Value.int .u8 0, Value.int .u8 0, Value.int .u8 0, Value.int .i16 0, Value.int .i16 0, Value.slice none 0 0] 46)) (.cells #[Value.int .i64 0, Value.int .i64 2, Value.int .u64 0, Value.int .i64 0, Value.int .i64 0, Value.int .u8 0, Value.int .u8 0, Value.int .u8 0, Value.int .u8 0, Value.int .u8 0, Value.int .u8 0, Value.int .u8 0, Value.int .u8 0, Value.int .i16 0, Value.int .i16 0, Value.slice none 0 0] 46)
 rw [World.size_alloc, World.size_alloc] at hx0
 rw [World.size_alloc] at hr0
 have HX0 := Aside0.mk hx0
 have HR0 := Aside0.mk hr0
 clear hx0 hr0
 have HT0 := Aside0.mk (blk_alloc (blk_alloc (blk_new w (.cells #[Value.int .i64 who, Value.int .i64 kind, Value.int .u64 n, Value.int .i64 i, Value.int .i64 wd, Value.int .u8 b0, Value.int .u8 b1, Value.int .u8 b2, Value.int .u8 b3, Value.int .u8 b4, Value.int .u8 b5, Value.int .u8 b6, Value.int .u8 b7, Value.int .i16 x, Value.int .i16 y, .slice A m c] 46)) (.cells #[Value.int .i64 0, Value.int .i64 0, Value.int .u64 0, Value.int .i64 0, Value.int .i64 0, Value.int .u8 0, Value.int .u8 0, Value.int .u8 0, Value.int .u8 0, Value.int .u8 0, Value.int .u8 0, Value.int .u8 0, Value.int .u8 0, Value.int .i16 0, Value.int .i16 0, Value.slice none 0 0] 46)) (.cells #[Value.int .i64 0, Value.int .i64 2, Value.int .u64 0, Value.int .i64 0, Value.int .i64 0, Value.int .u8 0, Value.int .u8 0, Value.int .u8 0, Value.int .u8 0, Value.int .u8 0, Value.int .u8 0, Value.int .u8 0, Value.int .u8 0, Value.int .i16 0, Value.int .i16 0, Value.slice none 0 0] 46))
 go_wp2_with fail
 refine (rVar_dead pr _ HDD.out).mono ?_
 rintro e w2 ⟨rfl, hw⟩
 have hb : Below (((w.alloc (.cells #[Value.int .i64 who, Value.int .i64 kind, Value.int .u64 n, Value.int .i64 i, Value.int .i64 wd, Value.int .u8 b0, Value.int .u8 b1, Value.int .u8 b2, Value.int .u8 b3, Value.int .u8 b4, Value.int .u8 b5, Value.int .u8 b6, Value.int .u8 b7, Value.int .i16 x, Value.int .i16 y, .slice A m c] 46)).alloc (.cells #[Value.int .i64 0, Value.int .i64 0, Value.int .u64 0, Value.int .i64 0, Value.int .i64 0, Value.int .u8 0, Value.int .u8 0, Value.int .u8 0, Value.int .u8 0, Value.int .u8 0, Value.int .u8 0, Value.int .u8 0, Value.int .u8 0, Value.int .i16 0, Value.int .i16 0, Value.slice none 0 0] 46)).alloc (.cells #[Value.int .i64 0, Value.int .i64 2, Value.int .u64 0, Value.int .i64 0, Value.int .i64 0, Value.int .u8 0, Value.int .u8 0, Value.int .u8 0, Value.int .u8 0, Value.int .u8 0, Value.int .u8 0, Value.int .u8 0, Value.int .u8 0, Value.int .i16 0, Value.int .i16 0, Value.slice none 0 0] 46)).heap.size (((w.alloc (.cells #[Value.int .i64 who, Value.int .i64 kind, Value.int .u64 n, Value.int .i64 i, Value.int .i64 wd, Value.int .u8 b0, Value.int .u8 b1, Value.int .u8 b2, Value.int .u8 b3, Value.int .u8 b4, Value.int .u8 b5, Value.int .u8 b6, Value.int .u8 b7, Value.int .i16 x, Value.int .i16 y, .slice A m c] 46)).alloc (.cells #[Value.int .i64 0, Value.int .i64 0, Value.int .u64 0, Value.int .i64 0, Value.int .i64 0, Value.int .u8 0, Value.int .u8 0, Value.int .u8 0, Value.int .u8 0, Value.int .u8 0, Value.int .u8 0, Value.int .u8 0, Value.int .u8 0, Value.int .i16 0, Value.int .i16 0, Value.slice none 0 0] 46)).alloc (.cells #[Value.int .i64 0, Value.int .i64 2, Value.int .u64 0, Value.int .i64 0, Value.int .i64 0, Value.int .u8 0, Value.int .u8 0, Value.int .u8 0, Value.int .u8 0, Value.int .u8 0, Value.int .u8 0, Value.int .u8 0, Value.int .u8 0, Value.int .i16 0, Value.int .i16 0, Value.slice none 0 0] 46)) w2 := by rw [hw]; exact Below.refl _ _
 clear hw
 have HB2 := Aside0.mk (below_step HCH.out hb)
 have kx := (hb.block _ (blk_lt HX0.out)).trans HX0.out
 have kr := (hb.block _ (blk_lt HR0.out)).trans HR0.out
 have kt := (hb.block _ (blk_lt HT0.out)).trans HT0.out
 clear hb
 obtain ⟨rc0, rc1, rc2, rc3, rc4, rc5, rc6, rc7, rc8, rc9, rc10, rc11, rc12, rc13, rc14, rc15⟩ := cells16 kr
 obtain ⟨rf0, rf1, rf2, rf3, rf4, rf5, rf6, rf7, rf8, rf9, rf10, rf11, rf12, rf13, rf14, rf15⟩ := frozen16 kr
 obtain ⟨xc0, xc1, xc2, xc3, xc4, xc5, xc6, xc7, xc8, xc9, xc10, xc11, xc12, xc13, xc14, xc15⟩ := cells16 kx
 obtain ⟨xf0, xf1, xf2, xf3, xf4, xf5, xf6, xf7, xf8, xf9, xf10, xf11, xf12, xf13, xf14, xf15⟩ := frozen16 kx
 have KX := Aside0.mk kx
 have KR := Aside0.mk kr
 clear kx kr kt
 go_wp2
 have HS := set16 (blk_far KR.out (p := ⟨w.heap.size + 1 + 1, 2, none⟩) (by show w.heap.size + 1 ≠ w.heap.size + 1 + 1; omega) (.int .u64 0)) (.int .i64 0) (.int .i64 2) (.int .u64 0) (.int .i64 0) (.int .i64 0) (.int .u8 0) (.int .u8 0) (.int .u8 0) (.int .u8 0) (.int .u8 0) (.int .u8 0) (.int .u8 0) (.int .u8 0) (.int .i16 0) (.int .i16 0) (.slice none 0 0)
 have HBB : Below w.heap.size w (w2.setCell ⟨w.heap.size + 1 + 1, 2, none⟩ (.int .u64 0)) := (below_set HB2.out (by omega : w.heap.size ≤ w.heap.size + 1 + 1))
 refine bodyPost_ret (results_cell_row rfl _ _ (w.heap.size + 1) 46 _ (0, 0) _ rfl HS.1 Try.underlying46 rfl (by kernel_rfl)) rfl ?_
 exact ⟨rfl, HBB.trans (HS.2.below HBB.size (fun k hk => by have q : k = w.heap.size + 1 := hk; omega))⟩
set_option maxHeartbeats 8000000 in
set_option maxRecDepth 100000 in
theorem tookD_int (pr : Value) (w : World) (hd : DeadR w pr) (who kind n i wd b0 b1 b2 b3 b4 b5 b6 b7 x y : Int) (A : Option Addr) (m c : Nat) (hk : kindOf kind = 3) :
 Calls Try.prog 34 #[pr, .agg (thing who kind n i wd b0 b1 b2 b3 b4 b5 b6 b7 x y (.slice A m c))] w fun e w' => e = .returned (.agg (thing 0 3 0 0 0 0 0 0 0 0 0 0 0 0 0 (.slice none 0 0))) ∧ Below w.heap.size w w' := by
 have HK := Aside0.mk hk
 have HCH : Aside0 (Below w.heap.size w (((w.alloc (.cells #[Value.int .i64 who, Value.int .i64 kind, Value.int .u64 n, Value.int .i64 i, Value.int .i64 wd, Value.int .u8 b0, Value.int .u8 b1, Value.int .u8 b2, Value.int .u8 b3, Value.int .u8 b4, Value.int .u8 b5, Value.int .u8 b6, Value.int .u8 b7, Value.int .i16 x, Value.int .i16 y, .slice A m c] 46)).alloc (.cells #[Value.int .i64 0, Value.int .i64 0, Value.int .u64 0, Value.int .i64 0, Value.int .i64 0, Value.int .u8 0, Value.int .u8 0, Value.int .u8 0, Value.int .u8 0, Value.int .u8 0, Value.int .u8 0, Value.int .u8 0, Value.int .u8 0, Value.int .i16 0, Value.int .i16 0, Value.slice none 0 0] 46)).alloc (.cells #[Value.int .i64 0, Value.int .i64 3, Value.int .u64 0, Value.int .i64 0, Value.int .i64 0, Value.int .u8 0, Value.int .u8 0, Value.int .u8 0, Value.int .u8 0, Value.int .u8 0, Value.int .u8 0, Value.int .u8 0, Value.int .u8 0, Value.int .i16 0, Value.int .i16 0, Value.slice none 0 0] 46))) := ⟨below_alloc (below_alloc (below_alloc (Below.refl _ _) _) _) _⟩
 have HDD := Aside0.mk (hd.below HCH.out)
 clear hk hd
 unfold thing
 go_enter Try.func34, Try.ntmps34
 go_wp2_with fail
 refine (round7_calls kind _).mono ?_
 rintro e w1 ⟨rfl, rfl⟩
 rw [HK.out]
 have hx0 := blk_new ((w.alloc (.cells #[Value.int .i64 who, Value.int .i64 kind, Value.int .u64 n, Value.int .i64 i, Value.int .i64 wd, Value.int .u8 b0, Value.int .u8 b1, Value.int .u8 b2, Value.int .u8 b3, Value.int .u8 b4, Value.int .u8 b5, Value.int .u8 b6, Value.int .u8 b7, Value.int .i16 x, Value.int .i16 y, .slice A m c] 46)).alloc (.cells #[Value.int .i64 0, Value.int .i64 0, Value.int .u64 0, Value.int .i64 0, Value.int .i64 0, Value.int .u8 0, Value.int .u8 0, Value.int .u8 0, Value.int .u8 0, Value.int .u8 0, Value.int .u8 0, Value.int .u8 0, Value.int .u8 0, Value.int .i16 0, Value.int .i16 0, Value.slice none 0 0] 46)) (.cells #[Value.int .i64 0, Value.int .i64 3, Value.int .u64 0, Value.int .i64 0, Value.int .i64 0, Value.int .u8 0, Value.int .u8 0, Value.int .u8 0, Value.int .u8 0, Value.int .u8 0, Value.int .u8 0, Value.int .u8 0, Value.int .u8 0, Value.int .i16 0, Value.int .i16 0, Value.slice none 0 0] 46)
 have hr0 := blk_alloc (blk_new (w.alloc (.cells #[Value.int .i64 who, Value.int .i64 kind, Value.int .u64 n, Value.int .i64 i, Value.int .i64 wd, Value.int .u8 b0, Value.int .u8 b1, Value.int .u8 b2, Value.int .u8 b3, Value.int .u8 b4, Value.int .u8 b5, Value.int .u8 b6, Value.int .u8 b7, Value.int .i16 x, Value.int .i16 y, .slice A m c] 46)) (.cells #[Value.int .i64 0, Value.int .i64 0, Value.int .u64 0, Value.int .i64 0, Value.int .i64 0, Value.int .u8 0, Value.int .u8 0, Value.int .u8 0, Value.int .u8 0, Value.int .u8 0, Value.int .u8 0, Value.int .u8 0, Value.int .u8 0, Value.int .i16 0, Value.int .i16 0, Value.slice none 0 0] 46)) (.cells #[Value.int .i64 0, Value.int .i64 3, Value.int .u64 0, Value.int .i64 0, Value.int .i64 0, Value.int .u8 0, Value.int .u8 0, Value.int .u8 0, Value.int .u8 0, Value.int .u8 0, Value.int .u8 0, Value.int .u8 0, Value.int .u8 0, Value.int .i16 0, Value.int .i16 0, Value.slice none 0 0] 46)
 rw [World.size_alloc, World.size_alloc] at hx0
 rw [World.size_alloc] at hr0
 have HX0 := Aside0.mk hx0
 have HR0 := Aside0.mk hr0
 clear hx0 hr0
 have HT0 := Aside0.mk (blk_alloc (blk_alloc (blk_new w (.cells #[Value.int .i64 who, Value.int .i64 kind, Value.int .u64 n, Value.int .i64 i, Value.int .i64 wd, Value.int .u8 b0, Value.int .u8 b1, Value.int .u8 b2, Value.int .u8 b3, Value.int .u8 b4, Value.int .u8 b5, Value.int .u8 b6, Value.int .u8 b7, Value.int .i16 x, Value.int .i16 y, .slice A m c] 46)) (.cells #[Value.int .i64 0, Value.int .i64 0, Value.int .u64 0, Value.int .i64 0, Value.int .i64 0, Value.int .u8 0, Value.int .u8 0, Value.int .u8 0, Value.int .u8 0, Value.int .u8 0, Value.int .u8 0, Value.int .u8 0, Value.int .u8 0, Value.int .i16 0, Value.int .i16 0, Value.slice none 0 0] 46)) (.cells #[Value.int .i64 0, Value.int .i64 3, Value.int .u64 0, Value.int .i64 0, Value.int .i64 0, Value.int .u8 0, Value.int .u8 0, Value.int .u8 0, Value.int .u8 0, Value.int .u8 0, Value.int .u8 0, Value.int .u8 0, Value.int .u8 0, Value.int .i16 0, Value.int .i16 0, Value.slice none 0 0] 46))
 go_wp2_with fail
 refine (rInt_dead pr _ HDD.out).mono ?_
 rintro e w2 ⟨rfl, hw⟩
 have hb : Below (((w.alloc (.cells #[Value.int .i64 who, Value.int .i64 kind, Value.int .u64 n, Value.int .i64 i, Value.int .i64 wd, Value.int .u8 b0, Value.int .u8 b1, Value.int .u8 b2, Value.int .u8 b3, Value.int .u8 b4, Value.int .u8 b5, Value.int .u8 b6, Value.int .u8 b7, Value.int .i16 x, Value.int .i16 y, .slice A m c] 46)).alloc (.cells #[Value.int .i64 0, Value.int .i64 0, Value.int .u64 0, Value.int .i64 0, Value.int .i64 0, Value.int .u8 0, Value.int .u8 0, Value.int .u8 0, Value.int .u8 0, Value.int .u8 0, Value.int .u8 0, Value.int .u8 0, Value.int .u8 0, Value.int .i16 0, Value.int .i16 0, Value.slice none 0 0] 46)).alloc (.cells #[Value.int .i64 0, Value.int .i64 3, Value.int .u64 0, Value.int .i64 0, Value.int .i64 0, Value.int .u8 0, Value.int .u8 0, Value.int .u8 0, Value.int .u8 0, Value.int .u8 0, Value.int .u8 0, Value.int .u8 0, Value.int .u8 0, Value.int .i16 0, Value.int .i16 0, Value.slice none 0 0] 46)).heap.size (((w.alloc (.cells #[Value.int .i64 who, Value.int .i64 kind, Value.int .u64 n, Value.int .i64 i, Value.int .i64 wd, Value.int .u8 b0, Value.int .u8 b1, Value.int .u8 b2, Value.int .u8 b3, Value.int .u8 b4, Value.int .u8 b5, Value.int .u8 b6, Value.int .u8 b7, Value.int .i16 x, Value.int .i16 y, .slice A m c] 46)).alloc (.cells #[Value.int .i64 0, Value.int .i64 0, Value.int .u64 0, Value.int .i64 0, Value.int .i64 0, Value.int .u8 0, Value.int .u8 0, Value.int .u8 0, Value.int .u8 0, Value.int .u8 0, Value.int .u8 0, Value.int .u8 0, Value.int .u8 0, Value.int .i16 0, Value.int .i16 0, Value.slice none 0 0] 46)).alloc (.cells #[Value.int .i64 0, Value.int .i64 3, Value.int .u64 0, Value.int .i64 0, Value.int .i64 0, Value.int .u8 0, Value.int .u8 0, Value.int .u8 0, Value.int .u8 0, Value.int .u8 0, Value.int .u8 0, Value.int .u8 0, Value.int .u8 0, Value.int .i16 0, Value.int .i16 0, Value.slice none 0 0] 46)) w2 := by rw [hw]; exact Below.refl _ _
 clear hw
 have HB2 := Aside0.mk (below_step HCH.out hb)
 have kx := (hb.block _ (blk_lt HX0.out)).trans HX0.out
 have kr := (hb.block _ (blk_lt HR0.out)).trans HR0.out
 have kt := (hb.block _ (blk_lt HT0.out)).trans HT0.out
 clear hb
 obtain ⟨rc0, rc1, rc2, rc3, rc4, rc5, rc6, rc7, rc8, rc9, rc10, rc11, rc12, rc13, rc14, rc15⟩ := cells16 kr
 obtain ⟨rf0, rf1, rf2, rf3, rf4, rf5, rf6, rf7, rf8, rf9, rf10, rf11, rf12, rf13, rf14, rf15⟩ := frozen16 kr
 obtain ⟨xc0, xc1, xc2, xc3, xc4, xc5, xc6, xc7, xc8, xc9, xc10, xc11, xc12, xc13, xc14, xc15⟩ := cells16 kx
 obtain ⟨xf0, xf1, xf2, xf3, xf4, xf5, xf6, xf7, xf8, xf9, xf10, xf11, xf12, xf13, xf14, xf15⟩ := frozen16 kx
 have KX := Aside0.mk kx
 have KR := Aside0.mk kr
 clear kx kr kt
 go_wp2
 have HS := set16 (blk_far KR.out (p := ⟨w.heap.size + 1 + 1, 3, none⟩) (by show w.heap.size + 1 ≠ w.heap.size + 1 + 1; omega) (.int .i64 0)) (.int .i64 0) (.int .i64 3) (.int .u64 0) (.int .i64 0) (.int .i64 0) (.int .u8 0) (.int .u8 0) (.int .u8 0) (.int .u8 0) (.int .u8 0) (.int .u8 0) (.int .u8 0) (.int .u8 0) (.int .i16 0) (.int .i16 0) (.slice none 0 0)
 have HBB : Below w.heap.size w (w2.setCell ⟨w.heap.size + 1 + 1, 3, none⟩ (.int .i64 0)) := (below_set HB2.out (by omega : w.heap.size ≤ w.heap.size + 1 + 1))
 refine bodyPost_ret (results_cell_row rfl _ _ (w.heap.size + 1) 46 _ (0, 0) _ rfl HS.1 Try.underlying46 rfl (by kernel_rfl)) rfl ?_
 exact ⟨rfl, HBB.trans (HS.2.below HBB.size (fun k hk => by have q : k = w.heap.size + 1 := hk; omega))⟩
set_option maxHeartbeats 8000000 in
set_option maxRecDepth 100000 in
theorem tookD_id (pr : Value) (w : World) (hd : DeadR w pr) (who kind n i wd b0 b1 b2 b3 b4 b5 b6 b7 x y : Int) (A : Option Addr) (m c : Nat) (hk : kindOf kind = 4) :
 Calls Try.prog 34 #[pr, .agg (thing who kind n i wd b0 b1 b2 b3 b4 b5 b6 b7 x y (.slice A m c))] w fun e w' => e = .returned (.agg (thing 0 4 0 0 0 0 0 0 0 0 0 0 0 0 0 (.slice none 0 0))) ∧ Below w.heap.size w w' := by
 have HK := Aside0.mk hk
 have HCH : Aside0 (Below w.heap.size w (((w.alloc (.cells #[Value.int .i64 who, Value.int .i64 kind, Value.int .u64 n, Value.int .i64 i, Value.int .i64 wd, Value.int .u8 b0, Value.int .u8 b1, Value.int .u8 b2, Value.int .u8 b3, Value.int .u8 b4, Value.int .u8 b5, Value.int .u8 b6, Value.int .u8 b7, Value.int .i16 x, Value.int .i16 y, .slice A m c] 46)).alloc (.cells #[Value.int .i64 0, Value.int .i64 0, Value.int .u64 0, Value.int .i64 0, Value.int .i64 0, Value.int .u8 0, Value.int .u8 0, Value.int .u8 0, Value.int .u8 0, Value.int .u8 0, Value.int .u8 0, Value.int .u8 0, Value.int .u8 0, Value.int .i16 0, Value.int .i16 0, Value.slice none 0 0] 46)).alloc (.cells #[Value.int .i64 0, Value.int .i64 4, Value.int .u64 0, Value.int .i64 0, Value.int .i64 0, Value.int .u8 0, Value.int .u8 0, Value.int .u8 0, Value.int .u8 0, Value.int .u8 0, Value.int .u8 0, Value.int .u8 0, Value.int .u8 0, Value.int .i16 0, Value.int .i16 0, Value.slice none 0 0] 46))) := ⟨below_alloc (below_alloc (below_alloc (Below.refl _ _) _) _) _⟩
 have HDD := Aside0.mk (hd.below HCH.out)
 clear hk hd
 unfold thing
 go_enter Try.func34, Try.ntmps34
 go_wp2_with fail
 refine (round7_calls kind _).mono ?_
 rintro e w1 ⟨rfl, rfl⟩
 rw [HK.out]
 have hx0 := blk_new ((w.alloc (.cells #[Value.int .i64 who, Value.int .i64 kind, Value.int .u64 n, Value.int .i64 i, Value.int .i64 wd, Value.int .u8 b0, Value.int .u8 b1, Value.int .u8 b2, Value.int .u8 b3, Value.int .u8 b4, Value.int .u8 b5, Value.int .u8 b6, Value.int .u8 b7, Value.int .i16 x, Value.int .i16 y, .slice A m c] 46)).alloc (.cells #[Value.int .i64 0, Value.int .i64 0, Value.int .u64 0, Value.int .i64 0, Value.int .i64 0, Value.int .u8 0, Value.int .u8 0, Value.int .u8 0, Value.int .u8 0, Value.int .u8 0, Value.int .u8 0, Value.int .u8 0, Value.int .u8 0, Value.int .i16 0, Value.int .i16 0, Value.slice none 0 0] 46)) (.cells #[Value.int .i64 0, Value.int .i64 4, Value.int .u64 0, Value.int .i64 0, Value.int .i64 0, Value.int .u8 0, Value.int .u8 0, Value.int .u8 0, Value.int .u8 0, Value.int .u8 0, Value.int .u8 0, Value.int .u8 0, Value.int .u8 0, Value.int .i16 0, Value.int .i16 0, Value.slice none 0 0] 46)
 have hr0 := blk_alloc (blk_new (w.alloc (.cells #[Value.int .i64 who, Value.int .i64 kind, Value.int .u64 n, Value.int .i64 i, Value.int .i64 wd, Value.int .u8 b0, Value.int .u8 b1, Value.int .u8 b2, Value.int .u8 b3, Value.int .u8 b4, Value.int .u8 b5, Value.int .u8 b6, Value.int .u8 b7, Value.int .i16 x, Value.int .i16 y, .slice A m c] 46)) (.cells #[Value.int .i64 0, Value.int .i64 0, Value.int .u64 0, Value.int .i64 0, Value.int .i64 0, Value.int .u8 0, Value.int .u8 0, Value.int .u8 0, Value.int .u8 0, Value.int .u8 0, Value.int .u8 0, Value.int .u8 0, Value.int .u8 0, Value.int .i16 0, Value.int .i16 0, Value.slice none 0 0] 46)) (.cells #[Value.int .i64 0, Value.int .i64 4, Value.int .u64 0, Value.int .i64 0, Value.int .i64 0, Value.int .u8 0, Value.int .u8 0, Value.int .u8 0, Value.int .u8 0, Value.int .u8 0, Value.int .u8 0, Value.int .u8 0, Value.int .u8 0, Value.int .i16 0, Value.int .i16 0, Value.slice none 0 0] 46)
 rw [World.size_alloc, World.size_alloc] at hx0
 rw [World.size_alloc] at hr0
 have HX0 := Aside0.mk hx0
 have HR0 := Aside0.mk hr0
 clear hx0 hr0
 have HT0 := Aside0.mk (blk_alloc (blk_alloc (blk_new w (.cells #[Value.int .i64 who, Value.int .i64 kind, Value.int .u64 n, Value.int .i64 i, Value.int .i64 wd, Value.int .u8 b0, Value.int .u8 b1, Value.int .u8 b2, Value.int .u8 b3, Value.int .u8 b4, Value.int .u8 b5, Value.int .u8 b6, Value.int .u8 b7, Value.int .i16 x, Value.int .i16 y, .slice A m c] 46)) (.cells #[Value.int .i64 0, Value.int .i64 0, Value.int .u64 0, Value.int .i64 0, Value.int .i64 0, Value.int .u8 0, Value.int .u8 0, Value.int .u8 0, Value.int .u8 0, Value.int .u8 0, Value.int .u8 0, Value.int .u8 0, Value.int .u8 0, Value.int .i16 0, Value.int .i16 0, Value.slice none 0 0] 46)) (.cells #[Value.int .i64 0, Value.int .i64 4, Value.int .u64 0, Value.int .i64 0, Value.int .i64 0, Value.int .u8 0, Value.int .u8 0, Value.int .u8 0, Value.int .u8 0, Value.int .u8 0, Value.int .u8 0, Value.int .u8 0, Value.int .u8 0, Value.int .i16 0, Value.int .i16 0, Value.slice none 0 0] 46))
 go_wp2_with fail
 refine (rID_dead pr _ HDD.out).mono ?_
 rintro e w2 ⟨rfl, hb⟩
 have HB2 := Aside0.mk (below_step HCH.out hb)
 have kx := (hb.block _ (blk_lt HX0.out)).trans HX0.out
 have kr := (hb.block _ (blk_lt HR0.out)).trans HR0.out
 have kt := (hb.block _ (blk_lt HT0.out)).trans HT0.out
 clear hb
 rw [show (nums .u8 (List.replicate 8 (0 : Int))).toArray = #[Value.int .u8 0, .int .u8 0, .int .u8 0, .int .u8 0, .int .u8 0, .int .u8 0, .int .u8 0, .int .u8 0] from rfl]
 obtain ⟨rc0, rc1, rc2, rc3, rc4, rc5, rc6, rc7, rc8, rc9, rc10, rc11, rc12, rc13, rc14, rc15⟩ := cells16 kr
 obtain ⟨rf0, rf1, rf2, rf3, rf4, rf5, rf6, rf7, rf8, rf9, rf10, rf11, rf12, rf13, rf14, rf15⟩ := frozen16 kr
 obtain ⟨xc0, xc1, xc2, xc3, xc4, xc5, xc6, xc7, xc8, xc9, xc10, xc11, xc12, xc13, xc14, xc15⟩ := cells16 kx
 obtain ⟨xf0, xf1, xf2, xf3, xf4, xf5, xf6, xf7, xf8, xf9, xf10, xf11, xf12, xf13, xf14, xf15⟩ := frozen16 kx
 have KX := Aside0.mk kx
 have KR := Aside0.mk kr
 clear kx kr kt
 go_wp2
 have HS := set16 (blk_far (blk_far (blk_far (blk_far (blk_far (blk_far (blk_far (blk_far KR.out (p := ⟨w.heap.size + 1 + 1, 5, none⟩) (by show w.heap.size + 1 ≠ w.heap.size + 1 + 1; omega) (.int .u8 0)) (p := ⟨w.heap.size + 1 + 1, 6, none⟩) (by show w.heap.size + 1 ≠ w.heap.size + 1 + 1; omega) (.int .u8 0)) (p := ⟨w.heap.size + 1 + 1, 7, none⟩) (by show w.heap.size + 1 ≠ w.heap.size + 1 + 1; omega) (.int .u8 0)) (p := ⟨w.heap.size + 1 + 1, 8, none⟩) (by show w.heap.size + 1 ≠ w.heap.size + 1 + 1; omega) (.int .u8 0)) (p := ⟨w.heap.size + 1 + 1, 9, none⟩) (by show w.heap.size + 1 ≠ w.heap.size + 1 + 1; omega) (.int .u8 0)) (p := ⟨w.heap.size + 1 + 1, 10, none⟩) (by show w.heap.size + 1 ≠ w.heap.size + 1 + 1; omega) (.int .u8 0)) (p := ⟨w.heap.size + 1 + 1, 11, none⟩) (by show w.heap.size + 1 ≠ w.heap.size + 1 + 1; omega) (.int .u8 0)) (p := ⟨w.heap.size + 1 + 1, 12, none⟩) (by show w.heap.size + 1 ≠ w.heap.size + 1 + 1; omega) (.int .u8 0)) (.int .i64 0) (.int .i64 4) (.int .u64 0) (.int .i64 0) (.int .i64 0) (.int .u8 0) (.int .u8 0) (.int .u8 0) (.int .u8 0) (.int .u8 0) (.int .u8 0) (.int .u8 0) (.int .u8 0) (.int .i16 0) (.int .i16 0) (.slice none 0 0)
 have HBB : Below w.heap.size w ((((((((w2.setCell ⟨w.heap.size + 1 + 1, 5, none⟩ (.int .u8 0)).setCell ⟨w.heap.size + 1 + 1, 6, none⟩ (.int .u8 0)).setCell ⟨w.heap.size + 1 + 1, 7, none⟩ (.int .u8 0)).setCell ⟨w.heap.size + 1 + 1, 8, none⟩ (.int .u8 0)).setCell ⟨w.heap.size + 1 + 1, 9, none⟩ (.int .u8 0)).setCell ⟨w.heap.size + 1 + 1, 10, none⟩ (.int .u8 0)).setCell ⟨w.heap.size + 1 + 1, 11, none⟩ (.int .u8 0)).setCell ⟨w.heap.size + 1 + 1, 12, none⟩ (.int .u8 0)) := (below_set (below_set (below_set (below_set (below_set (below_set (below_set (below_set HB2.out (by omega : w.heap.size ≤ w.heap.size + 1 + 1)) (by omega : w.heap.size ≤ w.heap.size + 1 + 1)) (by omega : w.heap.size ≤ w.heap.size + 1 + 1)) (by omega : w.heap.size ≤ w.heap.size + 1 + 1)) (by omega : w.heap.size ≤ w.heap.size + 1 + 1)) (by omega : w.heap.size ≤ w.heap.size + 1 + 1)) (by omega : w.heap.size ≤ w.heap.size + 1 + 1)) (by omega : w.heap.size ≤ w.heap.size + 1 + 1))
 refine bodyPost_ret (results_cell_row rfl _ _ (w.heap.size + 1) 46 _ (0, 0) _ rfl HS.1 Try.underlying46 rfl (by kernel_rfl)) rfl ?_
 exact ⟨rfl, HBB.trans (HS.2.below HBB.size (fun k hk => by have q : k = w.heap.size + 1 := hk; omega))⟩
set_option maxHeartbeats 8000000 in
set_option maxRecDepth 100000 in
theorem tookD_point (pr : Value) (w : World) (hd : DeadR w pr) (who kind n i wd b0 b1 b2 b3 b4 b5 b6 b7 x y : Int) (A : Option Addr) (m c : Nat) (hk : kindOf kind = 5) :
 Calls Try.prog 34 #[pr, .agg (thing who kind n i wd b0 b1 b2 b3 b4 b5 b6 b7 x y (.slice A m c))] w fun e w' => e = .returned (.agg (thing 0 5 0 0 0 0 0 0 0 0 0 0 0 0 0 (.slice none 0 0))) ∧ Below w.heap.size w w' := by
 have HK := Aside0.mk hk
 have HCH : Aside0 (Below w.heap.size w (((w.alloc (.cells #[Value.int .i64 who, Value.int .i64 kind, Value.int .u64 n, Value.int .i64 i, Value.int .i64 wd, Value.int .u8 b0, Value.int .u8 b1, Value.int .u8 b2, Value.int .u8 b3, Value.int .u8 b4, Value.int .u8 b5, Value.int .u8 b6, Value.int .u8 b7, Value.int .i16 x, Value.int .i16 y, .slice A m c] 46)).alloc (.cells #[Value.int .i64 0, Value.int .i64 0, Value.int .u64 0, Value.int .i64 0, Value.int .i64 0, Value.int .u8 0, Value.int .u8 0, Value.int .u8 0, Value.int .u8 0, Value.int .u8 0, Value.int .u8 0, Value.int .u8 0, Value.int .u8 0, Value.int .i16 0, Value.int .i16 0, Value.slice none 0 0] 46)).alloc (.cells #[Value.int .i64 0, Value.int .i64 5, Value.int .u64 0, Value.int .i64 0, Value.int .i64 0, Value.int .u8 0, Value.int .u8 0, Value.int .u8 0, Value.int .u8 0, Value.int .u8 0, Value.int .u8 0, Value.int .u8 0, Value.int .u8 0, Value.int .i16 0, Value.int .i16 0, Value.slice none 0 0] 46))) := ⟨below_alloc (below_alloc (below_alloc (Below.refl _ _) _) _) _⟩
 have HDD := Aside0.mk (hd.below HCH.out)
 clear hk hd
 unfold thing
 go_enter Try.func34, Try.ntmps34
 go_wp2_with fail
 refine (round7_calls kind _).mono ?_
 rintro e w1 ⟨rfl, rfl⟩
 rw [HK.out]
 have hx0 := blk_new ((w.alloc (.cells #[Value.int .i64 who, Value.int .i64 kind, Value.int .u64 n, Value.int .i64 i, Value.int .i64 wd, Value.int .u8 b0, Value.int .u8 b1, Value.int .u8 b2, Value.int .u8 b3, Value.int .u8 b4, Value.int .u8 b5, Value.int .u8 b6, Value.int .u8 b7, Value.int .i16 x, Value.int .i16 y, .slice A m c] 46)).alloc (.cells #[Value.int .i64 0, Value.int .i64 0, Value.int .u64 0, Value.int .i64 0, Value.int .i64 0, Value.int .u8 0, Value.int .u8 0, Value.int .u8 0, Value.int .u8 0, Value.int .u8 0, Value.int .u8 0, Value.int .u8 0, Value.int .u8 0, Value.int .i16 0, Value.int .i16 0, Value.slice none 0 0] 46)) (.cells #[Value.int .i64 0, Value.int .i64 5, Value.int .u64 0, Value.int .i64 0, Value.int .i64 0, Value.int .u8 0, Value.int .u8 0, Value.int .u8 0, Value.int .u8 0, Value.int .u8 0, Value.int .u8 0, Value.int .u8 0, Value.int .u8 0, Value.int .i16 0, Value.int .i16 0, Value.slice none 0 0] 46)
 have hr0 := blk_alloc (blk_new (w.alloc (.cells #[Value.int .i64 who, Value.int .i64 kind, Value.int .u64 n, Value.int .i64 i, Value.int .i64 wd, Value.int .u8 b0, Value.int .u8 b1, Value.int .u8 b2, Value.int .u8 b3, Value.int .u8 b4, Value.int .u8 b5, Value.int .u8 b6, Value.int .u8 b7, Value.int .i16 x, Value.int .i16 y, .slice A m c] 46)) (.cells #[Value.int .i64 0, Value.int .i64 0, Value.int .u64 0, Value.int .i64 0, Value.int .i64 0, Value.int .u8 0, Value.int .u8 0, Value.int .u8 0, Value.int .u8 0, Value.int .u8 0, Value.int .u8 0, Value.int .u8 0, Value.int .u8 0, Value.int .i16 0, Value.int .i16 0, Value.slice none 0 0] 46)) (.cells #[Value.int .i64 0, Value.int .i64 5, Value.int .u64 0, Value.int .i64 0, Value.int .i64 0, Value.int .u8 0, Value.int .u8 0, Value.int .u8 0, Value.int .u8 0, Value.int .u8 0, Value.int .u8 0, Value.int .u8 0, Value.int .u8 0, Value.int .i16 0, Value.int .i16 0, Value.slice none 0 0] 46)
 rw [World.size_alloc, World.size_alloc] at hx0
 rw [World.size_alloc] at hr0
 have HX0 := Aside0.mk hx0
 have HR0 := Aside0.mk hr0
 clear hx0 hr0
 have HT0 := Aside0.mk (blk_alloc (blk_alloc (blk_new w (.cells #[Value.int .i64 who, Value.int .i64 kind, Value.int .u64 n, Value.int .i64 i, Value.int .i64 wd, Value.int .u8 b0, Value.int .u8 b1, Value.int .u8 b2, Value.int .u8 b3, Value.int .u8 b4, Value.int .u8 b5, Value.int .u8 b6, Value.int .u8 b7, Value.int .i16 x, Value.int .i16 y, .slice A m c] 46)) (.cells #[Value.int .i64 0, Value.int .i64 0, Value.int .u64 0, Value.int .i64 0, Value.int .i64 0, Value.int .u8 0, Value.int .u8 0, Value.int .u8 0, Value.int .u8 0, Value.int .u8 0, Value.int .u8 0, Value.int .u8 0, Value.int .u8 0, Value.int .i16 0, Value.int .i16 0, Value.slice none 0 0] 46)) (.cells #[Value.int .i64 0, Value.int .i64 5, Value.int .u64 0, Value.int .i64 0, Value.int .i64 0, Value.int .u8 0, Value.int .u8 0, Value.int .u8 0, Value.int .u8 0, Value.int .u8 0, Value.int .u8 0, Value.int .u8 0, Value.int .u8 0, Value.int .i16 0, Value.int .i16 0, Value.slice none 0 0] 46))
 go_wp2_with fail
 refine (rPoint_dead pr _ HDD.out).mono ?_
 rintro e w2 ⟨rfl, hb⟩
 have HB2 := Aside0.mk (below_step HCH.out hb)
 have kx := (hb.block _ (blk_lt HX0.out)).trans HX0.out
 have kr := (hb.block _ (blk_lt HR0.out)).trans HR0.out
 have kt := (hb.block _ (blk_lt HT0.out)).trans HT0.out
 clear hb
 obtain ⟨rc0, rc1, rc2, rc3, rc4, rc5, rc6, rc7, rc8, rc9, rc10, rc11, rc12, rc13, rc14, rc15⟩ := cells16 kr
 obtain ⟨rf0, rf1, rf2, rf3, rf4, rf5, rf6, rf7, rf8, rf9, rf10, rf11, rf12, rf13, rf14, rf15⟩ := frozen16 kr
 obtain ⟨xc0, xc1, xc2, xc3, xc4, xc5, xc6, xc7, xc8, xc9, xc10, xc11, xc12, xc13, xc14, xc15⟩ := cells16 kx
 obtain ⟨xf0, xf1, xf2, xf3, xf4, xf5, xf6, xf7, xf8, xf9, xf10, xf11, xf12, xf13, xf14, xf15⟩ := frozen16 kx
 have KX := Aside0.mk kx
 have KR := Aside0.mk kr
 clear kx kr kt
 go_wp2
 have HS := set16 (blk_far (blk_far KR.out (p := ⟨w.heap.size + 1 + 1, 13, none⟩) (by show w.heap.size + 1 ≠ w.heap.size + 1 + 1; omega) (.int .i16 0)) (p := ⟨w.heap.size + 1 + 1, 14, none⟩) (by show w.heap.size + 1 ≠ w.heap.size + 1 + 1; omega) (.int .i16 0)) (.int .i64 0) (.int .i64 5) (.int .u64 0) (.int .i64 0) (.int .i64 0) (.int .u8 0) (.int .u8 0) (.int .u8 0) (.int .u8 0) (.int .u8 0) (.int .u8 0) (.int .u8 0) (.int .u8 0) (.int .i16 0) (.int .i16 0) (.slice none 0 0)
 have HBB : Below w.heap.size w ((w2.setCell ⟨w.heap.size + 1 + 1, 13, none⟩ (.int .i16 0)).setCell ⟨w.heap.size + 1 + 1, 14, none⟩ (.int .i16 0)) := (below_set (below_set HB2.out (by omega : w.heap.size ≤ w.heap.size + 1 + 1)) (by omega : w.heap.size ≤ w.heap.size + 1 + 1))
 refine bodyPost_ret (results_cell_row rfl _ _ (w.heap.size + 1) 46 _ (0, 0) _ rfl HS.1 Try.underlying46 rfl (by kernel_rfl)) rfl ?_
 exact ⟨rfl, HBB.trans (HS.2.below HBB.size (fun k hk => by have q : k = w.heap.size + 1 := hk; omega))⟩
set_option maxHeartbeats 8000000 in
set_option maxRecDepth 100000 in
theorem tookD_text (pr : Value) (w : World) (hd : DeadR w pr) (who kind n i wd b0 b1 b2 b3 b4 b5 b6 b7 x y : Int) (hwd : wd ≤ 9223372036854775807) (A : Option Addr) (m c : Nat) (hk : kindOf kind = 6) :
 Calls Try.prog 34 #[pr, .agg (thing who kind n i wd b0 b1 b2 b3 b4 b5 b6 b7 x y (.slice A m c))] w fun e w' => ∃ A' c', e = .returned (.agg (thing 0 6 0 0 0 0 0 0 0 0 0 0 0 0 0 (.slice A' 0 c'))) ∧ Below w.heap.size w w' := by
 have HK := Aside0.mk hk
 have HWD := Aside0.mk hwd
 have HCH : Aside0 (Below w.heap.size w (((w.alloc (.cells #[Value.int .i64 who, Value.int .i64 kind, Value.int .u64 n, Value.int .i64 i, Value.int .i64 wd, Value.int .u8 b0, Value.int .u8 b1, Value.int .u8 b2, Value.int .u8 b3, Value.int .u8 b4, Value.int .u8 b5, Value.int .u8 b6, Value.int .u8 b7, Value.int .i16 x, Value.int .i16 y, .slice A m c] 46)).alloc (.cells #[Value.int .i64 0, Value.int .i64 0, Value.int .u64 0, Value.int .i64 0, Value.int .i64 0, Value.int .u8 0, Value.int .u8 0, Value.int .u8 0, Value.int .u8 0, Value.int .u8 0, Value.int .u8 0, Value.int .u8 0, Value.int .u8 0, Value.int .i16 0, Value.int .i16 0, Value.slice none 0 0] 46)).alloc (.cells #[Value.int .i64 0, Value.int .i64 6, Value.int .u64 0, Value.int .i64 0, Value.int .i64 0, Value.int .u8 0, Value.int .u8 0, Value.int .u8 0, Value.int .u8 0, Value.int .u8 0, Value.int .u8 0, Value.int .u8 0, Value.int .u8 0, Value.int .i16 0, Value.int .i16 0, Value.slice none 0 0] 46))) := ⟨below_alloc (below_alloc (below_alloc (Below.refl _ _) _) _) _⟩
 have HDD := Aside0.mk (hd.below HCH.out)
 clear hk hd hwd
 unfold thing
 go_enter Try.func34, Try.ntmps34
 go_wp2_with fail
 refine (round7_calls kind _).mono ?_
 rintro e w1 ⟨rfl, rfl⟩
 rw [HK.out]
 have hx0 := blk_new ((w.alloc (.cells #[Value.int .i64 who, Value.int .i64 kind, Value.int .u64 n, Value.int .i64 i, Value.int .i64 wd, Value.int .u8 b0, Value.int .u8 b1, Value.int .u8 b2, Value.int .u8 b3, Value.int .u8 b4, Value.int .u8 b5, Value.int .u8 b6, Value.int .u8 b7, Value.int .i16 x, Value.int .i16 y, .slice A m c] 46)).alloc (.cells #[Value.int .i64 0, Value.int .i64 0, Value.int .u64 0, Value.int .i64 0, Value.int .i64 0, Value.int .u8 0, Value.int .u8 0, Value.int .u8 0, Value.int .u8 0, Value.int .u8 0, Value.int .u8 0, Value.int .u8 0, Value.int .u8 0, Value.int .i16 0, Value.int .i16 0, Value.slice none 0 0] 46)) (.cells #[Value.int .i64 0, Value.int .i64 6, Value.int .u64 0, Value.int .i64 0, Value.int .i64 0, Value.int .u8 0, Value.int .u8 0, Value.int .u8 0, Value.int .u8 0, Value.int .u8 0, Value.int .u8 0, Value.int .u8 0, Value.int .u8 0, Value.int .i16 0, Value.int .i16 0, Value.slice none 0 0] 46)
 have hr0 := blk_alloc (blk_new (w.alloc (.cells #[Value.int .i64 who, Value.int .i64 kind, Value.int .u64 n, Value.int .i64 i, Value.int .i64 wd, Value.int .u8 b0, Value.int .u8 b1, Value.int .u8 b2, Value.int .u8 b3, Value.int .u8 b4, Value.int .u8 b5, Value.int .u8 b6, Value.int .u8 b7, Value.int .i16 x, Value.int .i16 y, .slice A m c] 46)) (.cells #[Value.int .i64 0, Value.int .i64 0, Value.int .u64 0, Value.int .i64 0, Value.int .i64 0, Value.int .u8 0, Value.int .u8 0, Value.int .u8 0, Value.int .u8 0, Value.int .u8 0, Value.int .u8 0, Value.int .u8 0, Value.int .u8 0, Value.int .i16 0, Value.int .i16 0, Value.slice none 0 0] 46)) (.cells #[Value.int .i64 0, Value.int .i64 6, Value.int .u64 0, Value.int .i64 0, Value.int .i64 0, Value.int .u8 0, Value.int .u8 0, Value.int .u8 0, Value.int .u8 0, Value.int .u8 0, Value.int .u8 0, Value.int .u8 0, Value.int .u8 0, Value.int .i16 0, Value.int .i16 0, Value.slice none 0 0] 46)
 rw [World.size_alloc, World.size_alloc] at hx0
 rw [World.size_alloc] at hr0
 have HX0 := Aside0.mk hx0
 have HR0 := Aside0.mk hr0
 clear hx0 hr0
 have HT0 := Aside0.mk (blk_alloc (blk_alloc (blk_new w (.cells #[Value.int .i64 who, Value.int .i64 kind, Value.int .u64 n, Value.int .i64 i, Value.int .i64 wd, Value.int .u8 b0, Value.int .u8 b1, Value.int .u8 b2, Value.int .u8 b3, Value.int .u8 b4, Value.int .u8 b5, Value.int .u8 b6, Value.int .u8 b7, Value.int .i16 x, Value.int .i16 y, .slice A m c] 46)) (.cells #[Value.int .i64 0, Value.int .i64 0, Value.int .u64 0, Value.int .i64 0, Value.int .i64 0, Value.int .u8 0, Value.int .u8 0, Value.int .u8 0, Value.int .u8 0, Value.int .u8 0, Value.int .u8 0, Value.int .u8 0, Value.int .u8 0, Value.int .i16 0, Value.int .i16 0, Value.slice none 0 0] 46)) (.cells #[Value.int .i64 0, Value.int .i64 6, Value.int .u64 0, Value.int .i64 0, Value.int .i64 0, Value.int .u8 0, Value.int .u8 0, Value.int .u8 0, Value.int .u8 0, Value.int .u8 0, Value.int .u8 0, Value.int .u8 0, Value.int .u8 0, Value.int .i16 0, Value.int .i16 0, Value.slice none 0 0] 46))
 go_wp2_with fail
 refine (rText_dead pr wd HWD.out _ HDD.out).mono ?_
 rintro e w2 ⟨rfl, hw⟩
 have hb : Below (((w.alloc (.cells #[Value.int .i64 who, Value.int .i64 kind, Value.int .u64 n, Value.int .i64 i, Value.int .i64 wd, Value.int .u8 b0, Value.int .u8 b1, Value.int .u8 b2, Value.int .u8 b3, Value.int .u8 b4, Value.int .u8 b5, Value.int .u8 b6, Value.int .u8 b7, Value.int .i16 x, Value.int .i16 y, .slice A m c] 46)).alloc (.cells #[Value.int .i64 0, Value.int .i64 0, Value.int .u64 0, Value.int .i64 0, Value.int .i64 0, Value.int .u8 0, Value.int .u8 0, Value.int .u8 0, Value.int .u8 0, Value.int .u8 0, Value.int .u8 0, Value.int .u8 0, Value.int .u8 0, Value.int .i16 0, Value.int .i16 0, Value.slice none 0 0] 46)).alloc (.cells #[Value.int .i64 0, Value.int .i64 6, Value.int .u64 0, Value.int .i64 0, Value.int .i64 0, Value.int .u8 0, Value.int .u8 0, Value.int .u8 0, Value.int .u8 0, Value.int .u8 0, Value.int .u8 0, Value.int .u8 0, Value.int .u8 0, Value.int .i16 0, Value.int .i16 0, Value.slice none 0 0] 46)).heap.size (((w.alloc (.cells #[Value.int .i64 who, Value.int .i64 kind, Value.int .u64 n, Value.int .i64 i, Value.int .i64 wd, Value.int .u8 b0, Value.int .u8 b1, Value.int .u8 b2, Value.int .u8 b3, Value.int .u8 b4, Value.int .u8 b5, Value.int .u8 b6, Value.int .u8 b7, Value.int .i16 x, Value.int .i16 y, .slice A m c] 46)).alloc (.cells #[Value.int .i64 0, Value.int .i64 0, Value.int .u64 0, Value.int .i64 0, Value.int .i64 0, Value.int .u8 0, Value.int .u8 0, Value.int .u8 0, Value.int .u8 0, Value.int .u8 0, Value.int .u8 0, Value.int .u8 0, Value.int .u8 0, Value.int .i16 0, Value.int .i16 0, Value.slice none 0 0] 46)).alloc (.cells #[Value.int .i64 0, Value.int .i64 6, Value.int .u64 0, Value.int .i64 0, Value.int .i64 0, Value.int .u8 0, Value.int .u8 0, Value.int .u8 0, Value.int .u8 0, Value.int .u8 0, Value.int .u8 0, Value.int .u8 0, Value.int .u8 0, Value.int .i16 0, Value.int .i16 0, Value.slice none 0 0] 46)) w2 := by rw [hw]; exact Below.refl _ _
 clear hw
 have HB2 := Aside0.mk (below_step HCH.out hb)
 have kx := (hb.block _ (blk_lt HX0.out)).trans HX0.out
 have kr := (hb.block _ (blk_lt HR0.out)).trans HR0.out
 have kt := (hb.block _ (blk_lt HT0.out)).trans HT0.out
 clear hb
 have hsz : w.heap.size + 3 ≤ w2.heap.size := by have := blk_lt kx; omega
 have kt := (Lib.bytesWorld_at_old w2 5 ByteArray.empty _ (by omega)).trans kt
 have kx := (Lib.bytesWorld_at_old w2 5 ByteArray.empty _ (by omega)).trans kx
 have kr := (Lib.bytesWorld_at_old w2 5 ByteArray.empty _ (by omega)).trans kr
 have HSZ := Aside0.mk hsz
 clear hsz
 have kb := fun W => print_bytes (P := Try.prog) 9 22 5 Try.underlying9 Try.underlying22 Try.underlying5 ByteArray.empty W
 obtain ⟨rc0, rc1, rc2, rc3, rc4, rc5, rc6, rc7, rc8, rc9, rc10, rc11, rc12, rc13, rc14, rc15⟩ := cells16 kr
 obtain ⟨rf0, rf1, rf2, rf3, rf4, rf5, rf6, rf7, rf8, rf9, rf10, rf11, rf12, rf13, rf14, rf15⟩ := frozen16 kr
 obtain ⟨xc0, xc1, xc2, xc3, xc4, xc5, xc6, xc7, xc8, xc9, xc10, xc11, xc12, xc13, xc14, xc15⟩ := cells16 kx
 obtain ⟨xf0, xf1, xf2, xf3, xf4, xf5, xf6, xf7, xf8, xf9, xf10, xf11, xf12, xf13, xf14, xf15⟩ := frozen16 kx
 have KX := Aside0.mk kx
 have KR := Aside0.mk kr
 clear kx kr kt
 go_wp2
 have HS := set16 (blk_far KR.out (p := ⟨w.heap.size + 1 + 1, 15, none⟩) (by show w.heap.size + 1 ≠ w.heap.size + 1 + 1; omega) (.slice (some ⟨w2.heap.size, 0, none⟩) ByteArray.empty.size (grownCap w2 ByteArray.empty.size 0 5))) (.int .i64 0) (.int .i64 6) (.int .u64 0) (.int .i64 0) (.int .i64 0) (.int .u8 0) (.int .u8 0) (.int .u8 0) (.int .u8 0) (.int .u8 0) (.int .u8 0) (.int .u8 0) (.int .u8 0) (.int .i16 0) (.int .i16 0) (.slice (some ⟨w2.heap.size, 0, none⟩) ByteArray.empty.size (grownCap w2 ByteArray.empty.size 0 5))
 have HBB : Below w.heap.size w ((Lib.bytesWorld w2 5 ByteArray.empty).setCell ⟨w.heap.size + 1 + 1, 15, none⟩ (.slice (some ⟨w2.heap.size, 0, none⟩) ByteArray.empty.size (grownCap w2 ByteArray.empty.size 0 5))) := (below_set (bytes_below HB2.out HB2.out.size _ _) (by omega : w.heap.size ≤ w.heap.size + 1 + 1))
 refine bodyPost_ret (results_cell_row rfl _ _ (w.heap.size + 1) 46 _ (0, 0) _ rfl HS.1 Try.underlying46 rfl (by kernel_rfl)) rfl ?_
 exact ⟨_, _, rfl, HBB.trans (HS.2.below HBB.size (fun k hk => by have q : k = w.heap.size + 1 := hk; omega))⟩
theorem tookD_all (pr : Value) (w : World) (hd : DeadR w pr) (t : Th) (hw : t.w ≤ 9223372036854775807) (A : Option Addr) (c : Nat) :
 Calls Try.prog 34 #[pr, .agg (thingOf t A c)] w fun e w' => ∃ A' c', e = .returned (.agg (thingOf (dead t) A' c')) ∧ Below w.heap.size w w' := by
 rcases kind_cases t.kind with h | h | h | h | h | h | h
 · have e : dead t = (0, 0, 0, 0, 0, zero8, (0, 0), []) := by simp [dead, h]
   rw [e]
   refine (tookD_byte pr w hd t.1 t.kind t.n t.i t.w (rd t.id 0) (rd t.id 1) (rd t.id 2) (rd t.id 3) (rd t.id 4) (rd t.id 5) (rd t.id 6) (rd t.id 7) t.p.1 t.p.2 A t.t.length c h).mono ?_
   rintro e w' ⟨rfl, hb⟩
   exact ⟨none, 0, rfl, hb⟩
 · have e : dead t = (0, 1, 0, 0, t.w, zero8, (0, 0), []) := by simp [dead, h]
   rw [e]
   refine (tookD_fixed pr w hd t.1 t.kind t.n t.i t.w (rd t.id 0) (rd t.id 1) (rd t.id 2) (rd t.id 3) (rd t.id 4) (rd t.id 5) (rd t.id 6) (rd t.id 7) t.p.1 t.p.2 A t.t.length c h).mono ?_
   rintro e w' ⟨rfl, hb⟩
   exact ⟨none, 0, rfl, hb⟩
 · have e : dead t = (0, 2, 0, 0, 0, zero8, (0, 0), []) := by simp [dead, h]
   rw [e]
   refine (tookD_var pr w hd t.1 t.kind t.n t.i t.w (rd t.id 0) (rd t.id 1) (rd t.id 2) (rd t.id 3) (rd t.id 4) (rd t.id 5) (rd t.id 6) (rd t.id 7) t.p.1 t.p.2 A t.t.length c h).mono ?_
   rintro e w' ⟨rfl, hb⟩
   exact ⟨none, 0, rfl, hb⟩
 · have e : dead t = (0, 3, 0, 0, 0, zero8, (0, 0), []) := by simp [dead, h]
   rw [e]
   refine (tookD_int pr w hd t.1 t.kind t.n t.i t.w (rd t.id 0) (rd t.id 1) (rd t.id 2) (rd t.id 3) (rd t.id 4) (rd t.id 5) (rd t.id 6) (rd t.id 7) t.p.1 t.p.2 A t.t.length c h).mono ?_
   rintro e w' ⟨rfl, hb⟩
   exact ⟨none, 0, rfl, hb⟩
 · have e : dead t = (0, 4, 0, 0, 0, zero8, (0, 0), []) := by simp [dead, h]
   rw [e]
   refine (tookD_id pr w hd t.1 t.kind t.n t.i t.w (rd t.id 0) (rd t.id 1) (rd t.id 2) (rd t.id 3) (rd t.id 4) (rd t.id 5) (rd t.id 6) (rd t.id 7) t.p.1 t.p.2 A t.t.length c h).mono ?_
   rintro e w' ⟨rfl, hb⟩
   exact ⟨none, 0, rfl, hb⟩
 · have e : dead t = (0, 5, 0, 0, 0, zero8, (0, 0), []) := by simp [dead, h]
   rw [e]
   refine (tookD_point pr w hd t.1 t.kind t.n t.i t.w (rd t.id 0) (rd t.id 1) (rd t.id 2) (rd t.id 3) (rd t.id 4) (rd t.id 5) (rd t.id 6) (rd t.id 7) t.p.1 t.p.2 A t.t.length c h).mono ?_
   rintro e w' ⟨rfl, hb⟩
   exact ⟨none, 0, rfl, hb⟩
 · have e : dead t = (0, 6, 0, 0, 0, zero8, (0, 0), []) := by simp [dead, h]
   rw [e]
   refine (tookD_text pr w hd t.1 t.kind t.n t.i t.w (rd t.id 0) (rd t.id 1) (rd t.id 2) (rd t.id 3) (rd t.id 4) (rd t.id 5) (rd t.id 6) (rd t.id 7) t.p.1 t.p.2 hw A t.t.length c h).mono ?_
   rintro e w' ⟨A', c', rfl, hb⟩
   exact ⟨A', c', rfl, hb⟩
end Go.Proofs.Ytjijmikpoenbcaa.Codec
