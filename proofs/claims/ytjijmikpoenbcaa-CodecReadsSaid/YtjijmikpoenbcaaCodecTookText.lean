/- What 'took' answers of the kind text. Written by wip/gen/took.py. -/
import Derived.Test.YtjijmikpoenbcaaCodecTook
namespace Go.Proofs.Ytjijmikpoenbcaa.Codec
open Go.RowKit Go.Proofs.YtjijmikpoenbcaaW.PrintWords Go.Proofs.YtjijmikpoenbcaaW.PrintLast Go.Proofs.YtjijmikpoenbcaaW.PrintMore
set_option linter.unusedVariables false
set_option maxHeartbeats 8000000 in
set_option maxRecDepth 100000 in
theorem took_text (base g : Nat) (v : Value) (l : List Int) (hby : IsBytes l) (e0 : Int) (w : World) (hr : RAt w base g v l e0) (who kind n i wd b0 b1 b2 b3 b4 b5 b6 b7 x y : Int) (hwd : wd ≤ 9223372036854775807) (u : Value) (A : Option Addr) (m c : Nat) (hu : u = .slice A m c) (hk : kindOf kind = 6) :
    Calls Try.prog 34 #[.pointer (some ⟨g, 0, none⟩), .agg (thing who kind n i wd b0 b1 b2 b3 b4 b5 b6 b7 x y u)] w fun e w' => ∃ v', e = .returned (.agg (thing 0 6 0 0 0 0 0 0 0 0 0 0 0 0 0 v')) ∧ Took base g v (textR wd l e0).2.1 (textR wd l e0).2.2 w w' ∧ ∃ A' c', v' = .slice A' (textR wd l e0).1.length c' ∧ (textR wd l e0).1.length ≤ c' ∧ Kd.C (Kd.int .u8) w' A' (textR wd l e0).1.length (textR wd l e0).1 := by
  subst hu
  have HR := Aside0.mk hr
  have HK := Aside0.mk hk
  have HBY := Aside0.mk hby
  have HWD := Aside0.mk hwd
  have HTL : Aside0 ((textR wd l e0).1.length ≤ 140737488355328) := ⟨Nat.le_trans textR_len hr.len⟩
  clear hr hk hby hwd
  unfold thing
  go_enter Try.func34, Try.ntmps34
  go_wp2_with fail
  refine (round7_calls kind _).mono ?_
  rintro e w1 ⟨rfl, rfl⟩
  rw [HK.out]
  have HCH : Aside0 (Chg (fun _ => False) w (((w.alloc (.cells #[Value.int .i64 who, Value.int .i64 kind, Value.int .u64 n, Value.int .i64 i, Value.int .i64 wd, Value.int .u8 b0, Value.int .u8 b1, Value.int .u8 b2, Value.int .u8 b3, Value.int .u8 b4, Value.int .u8 b5, Value.int .u8 b6, Value.int .u8 b7, Value.int .i16 x, Value.int .i16 y, .slice A m c] 46)).alloc (.cells #[Value.int .i64 0, Value.int .i64 0, Value.int .u64 0, Value.int .i64 0, Value.int .i64 0, Value.int .u8 0, Value.int .u8 0, Value.int .u8 0, Value.int .u8 0, Value.int .u8 0, Value.int .u8 0, Value.int .u8 0, Value.int .u8 0, Value.int .i16 0, Value.int .i16 0, Value.slice none 0 0] 46)).alloc (.cells #[Value.int .i64 0, Value.int .i64 6, Value.int .u64 0, Value.int .i64 0, Value.int .i64 0, Value.int .u8 0, Value.int .u8 0, Value.int .u8 0, Value.int .u8 0, Value.int .u8 0, Value.int .u8 0, Value.int .u8 0, Value.int .u8 0, Value.int .i16 0, Value.int .i16 0, Value.slice none 0 0] 46))) := ⟨Chg.alloc (Chg.alloc (Chg.alloc (Chg.refl _ _) _) _) _⟩
  have hx0 := blk_new ((w.alloc (.cells #[Value.int .i64 who, Value.int .i64 kind, Value.int .u64 n, Value.int .i64 i, Value.int .i64 wd, Value.int .u8 b0, Value.int .u8 b1, Value.int .u8 b2, Value.int .u8 b3, Value.int .u8 b4, Value.int .u8 b5, Value.int .u8 b6, Value.int .u8 b7, Value.int .i16 x, Value.int .i16 y, .slice A m c] 46)).alloc (.cells #[Value.int .i64 0, Value.int .i64 0, Value.int .u64 0, Value.int .i64 0, Value.int .i64 0, Value.int .u8 0, Value.int .u8 0, Value.int .u8 0, Value.int .u8 0, Value.int .u8 0, Value.int .u8 0, Value.int .u8 0, Value.int .u8 0, Value.int .i16 0, Value.int .i16 0, Value.slice none 0 0] 46)) (.cells #[Value.int .i64 0, Value.int .i64 6, Value.int .u64 0, Value.int .i64 0, Value.int .i64 0, Value.int .u8 0, Value.int .u8 0, Value.int .u8 0, Value.int .u8 0, Value.int .u8 0, Value.int .u8 0, Value.int .u8 0, Value.int .u8 0, Value.int .i16 0, Value.int .i16 0, Value.slice none 0 0] 46)
  have hr0 := blk_alloc (blk_new (w.alloc (.cells #[Value.int .i64 who, Value.int .i64 kind, Value.int .u64 n, Value.int .i64 i, Value.int .i64 wd, Value.int .u8 b0, Value.int .u8 b1, Value.int .u8 b2, Value.int .u8 b3, Value.int .u8 b4, Value.int .u8 b5, Value.int .u8 b6, Value.int .u8 b7, Value.int .i16 x, Value.int .i16 y, .slice A m c] 46)) (.cells #[Value.int .i64 0, Value.int .i64 0, Value.int .u64 0, Value.int .i64 0, Value.int .i64 0, Value.int .u8 0, Value.int .u8 0, Value.int .u8 0, Value.int .u8 0, Value.int .u8 0, Value.int .u8 0, Value.int .u8 0, Value.int .u8 0, Value.int .i16 0, Value.int .i16 0, Value.slice none 0 0] 46)) (.cells #[Value.int .i64 0, Value.int .i64 6, Value.int .u64 0, Value.int .i64 0, Value.int .i64 0, Value.int .u8 0, Value.int .u8 0, Value.int .u8 0, Value.int .u8 0, Value.int .u8 0, Value.int .u8 0, Value.int .u8 0, Value.int .u8 0, Value.int .i16 0, Value.int .i16 0, Value.slice none 0 0] 46)
  rw [World.size_alloc, World.size_alloc] at hx0
  rw [World.size_alloc] at hr0
  have HX0 := Aside0.mk hx0
  have HR0 := Aside0.mk hr0
  clear hx0 hr0
  have HT0 := Aside0.mk (blk_alloc (blk_alloc (blk_new w (.cells #[Value.int .i64 who, Value.int .i64 kind, Value.int .u64 n, Value.int .i64 i, Value.int .i64 wd, Value.int .u8 b0, Value.int .u8 b1, Value.int .u8 b2, Value.int .u8 b3, Value.int .u8 b4, Value.int .u8 b5, Value.int .u8 b6, Value.int .u8 b7, Value.int .i16 x, Value.int .i16 y, .slice A m c] 46)) (.cells #[Value.int .i64 0, Value.int .i64 0, Value.int .u64 0, Value.int .i64 0, Value.int .i64 0, Value.int .u8 0, Value.int .u8 0, Value.int .u8 0, Value.int .u8 0, Value.int .u8 0, Value.int .u8 0, Value.int .u8 0, Value.int .u8 0, Value.int .i16 0, Value.int .i16 0, Value.slice none 0 0] 46)) (.cells #[Value.int .i64 0, Value.int .i64 6, Value.int .u64 0, Value.int .i64 0, Value.int .i64 0, Value.int .u8 0, Value.int .u8 0, Value.int .u8 0, Value.int .u8 0, Value.int .u8 0, Value.int .u8 0, Value.int .u8 0, Value.int .u8 0, Value.int .i16 0, Value.int .i16 0, Value.slice none 0 0] 46))
  have HKR := Aside0.mk (HR.out.keep HCH.out (fun _ _ h => h))
  go_wp2_with fail
  refine (rText_calls base g v l HBY.out e0 wd HWD.out _ HKR.out).mono ?_
  rintro e w2 ⟨rfl, h⟩
  have H := Aside0.mk h
  have hg : g < w.heap.size := blk_lt HR.out.blk
  have kx := (h.choose_spec.2.2).heap HX0.out (by omega)
  have kr := (h.choose_spec.2.2).heap HR0.out (by omega)
  have kt := (h.choose_spec.2.2).heap HT0.out (by omega)
  clear hg h
  have hsz : w.heap.size + 3 ≤ w2.heap.size := by have := H.out.choose_spec.2.2.size; rw [World.size_alloc, World.size_alloc, World.size_alloc] at this; omega
  have kt := (Lib.bytesWorld_at_old w2 5 (strOfNums (textR wd l e0).1) _ (by omega)).trans kt
  have kx := (Lib.bytesWorld_at_old w2 5 (strOfNums (textR wd l e0).1) _ (by omega)).trans kx
  have kr := (Lib.bytesWorld_at_old w2 5 (strOfNums (textR wd l e0).1) _ (by omega)).trans kr
  have htb := text_bytes w2 (textR wd l e0).1 (textR_bytes HBY.out) (by have := HTL.out; omega)
  have HTB := Aside0.mk htb
  clear htb
  have HSZ := Aside0.mk hsz
  clear hsz
  have kb := fun W => print_bytes (P := Try.prog) 9 22 5 Try.underlying9 Try.underlying22 Try.underlying5 (strOfNums (textR wd l e0).1) W
  have rc0 : (Lib.bytesWorld w2 5 (strOfNums (textR wd l e0).1)).cell? ⟨w.heap.size + 1, 0, none⟩ = some (.int .i64 0) := (blk_cell kr 0).trans rfl
  have rf0 := blk_frozen kr 0
  have rc1 : (Lib.bytesWorld w2 5 (strOfNums (textR wd l e0).1)).cell? ⟨w.heap.size + 1, 1, none⟩ = some (.int .i64 0) := (blk_cell kr 1).trans rfl
  have rf1 := blk_frozen kr 1
  have rc2 : (Lib.bytesWorld w2 5 (strOfNums (textR wd l e0).1)).cell? ⟨w.heap.size + 1, 2, none⟩ = some (.int .u64 0) := (blk_cell kr 2).trans rfl
  have rf2 := blk_frozen kr 2
  have rc3 : (Lib.bytesWorld w2 5 (strOfNums (textR wd l e0).1)).cell? ⟨w.heap.size + 1, 3, none⟩ = some (.int .i64 0) := (blk_cell kr 3).trans rfl
  have rf3 := blk_frozen kr 3
  have rc4 : (Lib.bytesWorld w2 5 (strOfNums (textR wd l e0).1)).cell? ⟨w.heap.size + 1, 4, none⟩ = some (.int .i64 0) := (blk_cell kr 4).trans rfl
  have rf4 := blk_frozen kr 4
  have rc5 : (Lib.bytesWorld w2 5 (strOfNums (textR wd l e0).1)).cell? ⟨w.heap.size + 1, 5, none⟩ = some (.int .u8 0) := (blk_cell kr 5).trans rfl
  have rf5 := blk_frozen kr 5
  have rc6 : (Lib.bytesWorld w2 5 (strOfNums (textR wd l e0).1)).cell? ⟨w.heap.size + 1, 6, none⟩ = some (.int .u8 0) := (blk_cell kr 6).trans rfl
  have rf6 := blk_frozen kr 6
  have rc7 : (Lib.bytesWorld w2 5 (strOfNums (textR wd l e0).1)).cell? ⟨w.heap.size + 1, 7, none⟩ = some (.int .u8 0) := (blk_cell kr 7).trans rfl
  have rf7 := blk_frozen kr 7
  have rc8 : (Lib.bytesWorld w2 5 (strOfNums (textR wd l e0).1)).cell? ⟨w.heap.size + 1, 8, none⟩ = some (.int .u8 0) := (blk_cell kr 8).trans rfl
  have rf8 := blk_frozen kr 8
  have rc9 : (Lib.bytesWorld w2 5 (strOfNums (textR wd l e0).1)).cell? ⟨w.heap.size + 1, 9, none⟩ = some (.int .u8 0) := (blk_cell kr 9).trans rfl
  have rf9 := blk_frozen kr 9
  have rc10 : (Lib.bytesWorld w2 5 (strOfNums (textR wd l e0).1)).cell? ⟨w.heap.size + 1, 10, none⟩ = some (.int .u8 0) := (blk_cell kr 10).trans rfl
  have rf10 := blk_frozen kr 10
  have rc11 : (Lib.bytesWorld w2 5 (strOfNums (textR wd l e0).1)).cell? ⟨w.heap.size + 1, 11, none⟩ = some (.int .u8 0) := (blk_cell kr 11).trans rfl
  have rf11 := blk_frozen kr 11
  have rc12 : (Lib.bytesWorld w2 5 (strOfNums (textR wd l e0).1)).cell? ⟨w.heap.size + 1, 12, none⟩ = some (.int .u8 0) := (blk_cell kr 12).trans rfl
  have rf12 := blk_frozen kr 12
  have rc13 : (Lib.bytesWorld w2 5 (strOfNums (textR wd l e0).1)).cell? ⟨w.heap.size + 1, 13, none⟩ = some (.int .i16 0) := (blk_cell kr 13).trans rfl
  have rf13 := blk_frozen kr 13
  have rc14 : (Lib.bytesWorld w2 5 (strOfNums (textR wd l e0).1)).cell? ⟨w.heap.size + 1, 14, none⟩ = some (.int .i16 0) := (blk_cell kr 14).trans rfl
  have rf14 := blk_frozen kr 14
  have rc15 : (Lib.bytesWorld w2 5 (strOfNums (textR wd l e0).1)).cell? ⟨w.heap.size + 1, 15, none⟩ = some (.slice none 0 0) := (blk_cell kr 15).trans rfl
  have rf15 := blk_frozen kr 15
  have xc0 : (Lib.bytesWorld w2 5 (strOfNums (textR wd l e0).1)).cell? ⟨w.heap.size + 2, 0, none⟩ = some (.int .i64 0) := (blk_cell kx 0).trans rfl
  have xf0 := blk_frozen kx 0
  have xc1 : (Lib.bytesWorld w2 5 (strOfNums (textR wd l e0).1)).cell? ⟨w.heap.size + 2, 1, none⟩ = some (.int .i64 6) := (blk_cell kx 1).trans rfl
  have xf1 := blk_frozen kx 1
  have xc2 : (Lib.bytesWorld w2 5 (strOfNums (textR wd l e0).1)).cell? ⟨w.heap.size + 2, 2, none⟩ = some (.int .u64 0) := (blk_cell kx 2).trans rfl
  have xf2 := blk_frozen kx 2
  have xc3 : (Lib.bytesWorld w2 5 (strOfNums (textR wd l e0).1)).cell? ⟨w.heap.size + 2, 3, none⟩ = some (.int .i64 0) := (blk_cell kx 3).trans rfl
  have xf3 := blk_frozen kx 3
  have xc4 : (Lib.bytesWorld w2 5 (strOfNums (textR wd l e0).1)).cell? ⟨w.heap.size + 2, 4, none⟩ = some (.int .i64 0) := (blk_cell kx 4).trans rfl
  have xf4 := blk_frozen kx 4
  have xc5 : (Lib.bytesWorld w2 5 (strOfNums (textR wd l e0).1)).cell? ⟨w.heap.size + 2, 5, none⟩ = some (.int .u8 0) := (blk_cell kx 5).trans rfl
  have xf5 := blk_frozen kx 5
  have xc6 : (Lib.bytesWorld w2 5 (strOfNums (textR wd l e0).1)).cell? ⟨w.heap.size + 2, 6, none⟩ = some (.int .u8 0) := (blk_cell kx 6).trans rfl
  have xf6 := blk_frozen kx 6
  have xc7 : (Lib.bytesWorld w2 5 (strOfNums (textR wd l e0).1)).cell? ⟨w.heap.size + 2, 7, none⟩ = some (.int .u8 0) := (blk_cell kx 7).trans rfl
  have xf7 := blk_frozen kx 7
  have xc8 : (Lib.bytesWorld w2 5 (strOfNums (textR wd l e0).1)).cell? ⟨w.heap.size + 2, 8, none⟩ = some (.int .u8 0) := (blk_cell kx 8).trans rfl
  have xf8 := blk_frozen kx 8
  have xc9 : (Lib.bytesWorld w2 5 (strOfNums (textR wd l e0).1)).cell? ⟨w.heap.size + 2, 9, none⟩ = some (.int .u8 0) := (blk_cell kx 9).trans rfl
  have xf9 := blk_frozen kx 9
  have xc10 : (Lib.bytesWorld w2 5 (strOfNums (textR wd l e0).1)).cell? ⟨w.heap.size + 2, 10, none⟩ = some (.int .u8 0) := (blk_cell kx 10).trans rfl
  have xf10 := blk_frozen kx 10
  have xc11 : (Lib.bytesWorld w2 5 (strOfNums (textR wd l e0).1)).cell? ⟨w.heap.size + 2, 11, none⟩ = some (.int .u8 0) := (blk_cell kx 11).trans rfl
  have xf11 := blk_frozen kx 11
  have xc12 : (Lib.bytesWorld w2 5 (strOfNums (textR wd l e0).1)).cell? ⟨w.heap.size + 2, 12, none⟩ = some (.int .u8 0) := (blk_cell kx 12).trans rfl
  have xf12 := blk_frozen kx 12
  have xc13 : (Lib.bytesWorld w2 5 (strOfNums (textR wd l e0).1)).cell? ⟨w.heap.size + 2, 13, none⟩ = some (.int .i16 0) := (blk_cell kx 13).trans rfl
  have xf13 := blk_frozen kx 13
  have xc14 : (Lib.bytesWorld w2 5 (strOfNums (textR wd l e0).1)).cell? ⟨w.heap.size + 2, 14, none⟩ = some (.int .i16 0) := (blk_cell kx 14).trans rfl
  have xf14 := blk_frozen kx 14
  have xc15 : (Lib.bytesWorld w2 5 (strOfNums (textR wd l e0).1)).cell? ⟨w.heap.size + 2, 15, none⟩ = some (.slice none 0 0) := (blk_cell kx 15).trans rfl
  have xf15 := blk_frozen kx 15
  have KX := Aside0.mk kx
  have KR := Aside0.mk kr
  clear kx kr kt
  go_wp2
  have HS := set16 (blk_far KR.out (p := ⟨w.heap.size + 1 + 1, 15, none⟩) (by show w.heap.size + 1 ≠ w.heap.size + 1 + 1; omega) (.slice (some ⟨w2.heap.size, 0, none⟩) (strOfNums (textR wd l e0).1).size (grownCap w2 (strOfNums (textR wd l e0).1).size 0 5))) (.int .i64 0) (.int .i64 6) (.int .u64 0) (.int .i64 0) (.int .i64 0) (.int .u8 0) (.int .u8 0) (.int .u8 0) (.int .u8 0) (.int .u8 0) (.int .u8 0) (.int .u8 0) (.int .u8 0) (.int .i16 0) (.int .i16 0) (.slice (some ⟨w2.heap.size, 0, none⟩) (strOfNums (textR wd l e0).1).size (grownCap w2 (strOfNums (textR wd l e0).1).size 0 5))
  have HC2 : Chg (fun k => w.heap.size ≤ k) (Lib.bytesWorld w2 5 (strOfNums (textR wd l e0).1)) ((Lib.bytesWorld w2 5 (strOfNums (textR wd l e0).1)).setCell ⟨w.heap.size + 1 + 1, 15, none⟩ (.slice (some ⟨w2.heap.size, 0, none⟩) (strOfNums (textR wd l e0).1).size (grownCap w2 (strOfNums (textR wd l e0).1).size 0 5))) := (Chg.setCell (F := fun k => w.heap.size ≤ k) (Chg.refl _ _) (p := ⟨w.heap.size + 1 + 1, 15, none⟩) (Or.inl (by show w.heap.size ≤ w.heap.size + 1 + 1; omega)) _)
  refine bodyPost_ret (results_cell_row rfl _ _ (w.heap.size + 1) 46 _ (0, 0) _ rfl HS.1 Try.underlying46 rfl (by kernel_rfl)) rfl ?_
  have HC0 : Chg (fun k => w.heap.size ≤ k) w2 (Lib.bytesWorld w2 5 (strOfNums (textR wd l e0).1)) := Chg.of_below (bytes_below (Below.refl _ _) (Nat.le_refl _) _ _)
  have HC3 := HC2.then HS.2 (fun i hi => Or.inl (by have q : i = w.heap.size + 1 := hi; omega))
  refine ⟨_, rfl, Took.three HR.out HCH.out H.out (HC0.trans HC3), _, _, by rw [strOfNums_size], ?_, ?_⟩
  · exact grownCap_ge _ _ _ _
  · refine C_chg (F := fun _ => False) HTB.out ?_
    have h1 := HSZ.out
    have hnb := Lib.bytesWorld_size w2 5 (strOfNums (textR wd l e0).1)
    have HCx : Chg (fun k => k = w.heap.size + 1 + 1) (Lib.bytesWorld w2 5 (strOfNums (textR wd l e0).1)) ((Lib.bytesWorld w2 5 (strOfNums (textR wd l e0).1)).setCell ⟨w.heap.size + 1 + 1, 15, none⟩ (.slice (some ⟨w2.heap.size, 0, none⟩) (strOfNums (textR wd l e0).1).size (grownCap w2 (strOfNums (textR wd l e0).1).size 0 5))) := Chg.setCell (F := fun k => k = w.heap.size + 1 + 1) (Chg.refl _ _) (p := ⟨w.heap.size + 1 + 1, 15, none⟩) (Or.inl rfl) _
    rw [HS.2.block w2.heap.size (by have := HCx.size; omega) (by omega)]
    exact HCx.block w2.heap.size (by omega) (by omega)
end Go.Proofs.Ytjijmikpoenbcaa.Codec
