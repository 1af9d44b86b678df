/- The law CodecReads, walked. Written by wip/gen/reads.py. -/
import Derived.Test.YtjijmikpoenbcaaC16
import Derived.Test.YtjijmikpoenbcaaRR
import Derived.Test.YtjijmikpoenbcaaXMeantM0
import Derived.Test.YtjijmikpoenbcaaXMeantM1
import Derived.Test.YtjijmikpoenbcaaTookDead
import Derived.Test.YtjijmikpoenbcaaQ8
import Derived.Test.YtjijmikpoenbcaaQ5
import Derived.Test.YtjijmikpoenbcaaQ3
namespace Go.Proofs.Ytjijmikpoenbcaa.Codec
open Go.RowKit Go.Proofs.YtjijmikpoenbcaaW.PrintWords Go.Proofs.YtjijmikpoenbcaaW.PrintLast Go.Proofs.YtjijmikpoenbcaaW.PrintMore Go.Proofs.Ytjijmikpoenbcaa.Q
set_option linter.unusedVariables false
set_option linter.unusedSimpArgs false
def reads_T19 : Bool × List (List Nat × List Nat) := (true, [([], []), ([], []), ([0, 1], [0, 1]), ([2], [2]), ([], []), ([3, 4], [3, 4]), ([], []), ([6, 5, 5, 0, 1, 2, 3, 4, 5, 6], [5, 6])])
def reads_B19 : List Nat := [0, 0, 3, 7, 0, 31, 0, 127]
theorem reads_tab19 : rtab .any (opsOf Try.f8 19) = reads_T19 := by kernel_rfl
theorem reads_bits19 : waitsOk reads_T19.2 reads_B19 = true := by kernel_rfl
def reads_T24 : Bool × List (List Nat × List Nat) := (true, [([], []), ([0], [0]), ([], []), ([1, 2], [1, 2]), ([3, 3, 0, 1, 2, 3], [3])])
def reads_B24 : List Nat := [0, 1, 0, 7, 15]
theorem reads_tab24 : rtab .any (opsOf Try.f8 24) = reads_T24 := by kernel_rfl
theorem reads_bits24 : waitsOk reads_T24.2 reads_B24 = true := by kernel_rfl
def reads_T29 : Bool × List (List Nat × List Nat) := (true, [([], []), ([0], [0]), ([1], [1]), ([2], [2]), ([], []), ([4, 3], [4]), ([3, 5], [3, 5]), ([6, 5], [6]), ([7], [7]), ([8, 7], [7, 8]), ([9, 7], [7, 9]), ([10, 7, 7], [7, 10]), ([7], [7]), ([12, 11, 7], [7, 12]), ([11, 13, 7], [7, 11, 13]), ([7, 14], [7, 14]), ([15, 13], [15]), ([16], [16]), ([17, 16], [16, 17]), ([18, 16], [16, 18]), ([19, 16, 16], [16, 19]), ([16], [16]), ([21, 16], [16, 21]), ([22, 16], [16, 22]), ([23, 16], [16, 23]), ([20, 24, 16], [16, 20, 24]), ([16, 25], [16, 25]), ([26, 20], [26]), ([27], [27]), ([27], [27]), ([28, 29, 27, 27], [27, 28, 29]), ([27, 30], [27, 30]), ([31, 30], [31]), ([32, 32], [32]), ([32, 33], [32, 33]), ([34, 33, 0, 1, 2, 3, 4, 5, 6, 7, 8, 9, 10, 11, 12, 13, 14, 15, 16, 17, 18, 19, 20, 21, 22, 23, 24, 25, 26, 27, 28, 29, 30, 31, 32, 33, 34], [34])])
def reads_B29 : List Nat := [0, 1, 3, 7, 0, 31, 63, 127, 255, 511, 1023, 2047, 255, 8191, 16383, 32767, 65535, 131071, 262143, 524287, 1048575, 131071, 2228223, 6422527, 14811135, 33554431, 67108863, 134217727, 268435455, 268435455, 1073741823, 2147483647, 4294967295, 8589934591, 17179869183, 34359738367]
theorem reads_tab29 : rtab .any (opsOf Try.f8 29) = reads_T29 := by kernel_rfl
theorem reads_bits29 : waitsOk reads_T29.2 reads_B29 = true := by kernel_rfl
set_option maxHeartbeats 80000000 in
set_option maxRecDepth 100000 in
theorem reads_walk (A0 : Option Addr) (c0 : Nat) (one : List Int) (A1 : Option Addr) (c1 : Nat) (two : List Int) (A2 : Option Addr) (c2 : Nat) (ts : List Th) (w : World)
 (h0 : Kd.C (Kd.int .u8) w A0 one.length one) (hc0 : one.length ≤ c0) (hl0 : one.length + 2 < 140737488355328) (hy0 : IsBytes one)
 (h1 : Kd.C (Kd.int .u8) w A1 two.length two) (hc1 : two.length ≤ c1) (hl1 : two.length + 2 < 140737488355328) (hy1 : IsBytes two)
 (h2 : Kd.C kTh w A2 ts.length ts) (ht : ∀ t ∈ ts, t.w ≤ 9223372036854775807) :
 Calls Try.prog 8 #[.slice A0 one.length c0, .slice A1 two.length c1, .slice A2 ts.length c2] w fun e w' => e = .returned (.bool true) ∧ Below w.heap.size w w' := by
 have H0 := Aside0.mk h0
 have H1 := Aside0.mk h1
 have H2 := Aside0.mk h2
 have HC0 := Aside0.mk hc0
 have HC1 := Aside0.mk hc1
 have HL0 := Aside0.mk hl0
 have HL1 := Aside0.mk hl1
 have HY0 := Aside0.mk hy0
 have HY1 := Aside0.mk hy1
 have HT := Aside0.mk ht
 clear h0 h1 h2 hc0 hc1 hl0 hl1 hy0 hy1 ht
 go_enter Try.func8, Try.ntmps8
 go_wp2_with fail
 refine (lent_calls A0 c0 one w H0.out HL0.out).mono ?_
 rintro e w1 ⟨ga, ca, rfl, hla, hb1⟩
 have HLA1 := Aside0.mk hla
 have HB1 := Aside0.mk hb1
 clear hla hb1
 go_wp2_with fail
 refine (lent_calls A1 c1 two w1 (Kd.C_below H1.out HB1.out) HL1.out).mono ?_
 rintro e w2 ⟨gb, cb, rfl, hlb, hb2⟩
 have HB2 := Aside0.mk (below_then HB1.out HB1.out.size hb2)
 have HLA2 := Aside0.mk (lent_below HLA1.out hb2)
 have HLB2 := Aside0.mk hlb
 have HO2 : Aside0 (w.heap.size ≤ ga ∧ ga < w1.heap.size ∧ w1.heap.size ≤ gb ∧ gb < w2.heap.size) := ⟨HLA1.out.ge, lent_lt HLA1.out, hlb.ge, lent_lt hlb⟩
 clear hlb hb2 HLA1 HB1
 go_wp2_with fail
 refine (NewReader_calls (some ⟨ga, 0, none⟩) ca one w2 HLA2.out.reads (by have := HL0.out; omega)).mono ?_
 rintro e w3 ⟨r0, rfl, hr0, hb3⟩
 have HB3 := Aside0.mk (below_step HB2.out hb3)
 have HLA3 := Aside0.mk (lent_below HLA2.out hb3)
 have HLB3 := Aside0.mk (lent_below HLB2.out hb3)
 have HR03 := Aside0.mk hr0
 have HO3 : Aside0 (w2.heap.size < w3.heap.size) := ⟨by have := hr0.lt r0 (Or.inl rfl); omega⟩
 clear hr0 hb3 HB2 HLA2 HLB2
 go_wp2_with fail
 refine (NewReader_calls (some ⟨gb, 0, none⟩) cb two w3 HLB3.out.reads (by have := HL1.out; omega)).mono ?_
 rintro e w4 ⟨r1, rfl, hr1, hb4⟩
 have HB4 := Aside0.mk (below_step HB3.out hb4)
 have HLA4 := Aside0.mk (lent_below HLA3.out hb4)
 have HLB4 := Aside0.mk (lent_below HLB3.out hb4)
 have HR04 := Aside0.mk (HR03.out.below hb4)
 have HR14 := Aside0.mk hr1
 have HO4 : Aside0 (w3.heap.size < w4.heap.size) := ⟨by have := hr1.lt r1 (Or.inl rfl); omega⟩
 have HF0 : Aside0 (∀ k, rfp r0 (.slice (some ⟨w2.heap.size, 0, none⟩) one.length one.length) k → w2.heap.size ≤ k ∧ k < w3.heap.size) := ⟨HR03.out.lt⟩
 have HF1 : Aside0 (∀ k, rfp r1 (.slice (some ⟨w3.heap.size, 0, none⟩) two.length two.length) k → w3.heap.size ≤ k ∧ k < w4.heap.size) := ⟨hr1.lt⟩
 clear hr1 hb4 HB3 HLA3 HLB3 HR03
 go_wp2_with fail
 have hbn : Below w4.heap.size w4 ((w4.alloc (.cells #[.slice none 0 0, .int .i64 0, .bool false] 65)).alloc (.cells #[.pointer (some ⟨r0, 0, none⟩), .pointer (some ⟨r1, 0, none⟩), .pointer none, .pointer (some ⟨w4.heap.size, 0, none⟩)] 55)) := below_alloc (below_alloc (Below.refl _ _) _) _
 have HG35 : Aside0 (((w4.alloc (.cells #[.slice none 0 0, .int .i64 0, .bool false] 65)).alloc (.cells #[.pointer (some ⟨r0, 0, none⟩), .pointer (some ⟨r1, 0, none⟩), .pointer none, .pointer (some ⟨w4.heap.size, 0, none⟩)] 55)).heap[w4.heap.size]? = some (.cells #[.slice none 0 0, .int .i64 0, .bool false] 65 (0, 0))) := ⟨blk_alloc (blk_new w4 _) _⟩
 have HGR5 : Aside0 (((w4.alloc (.cells #[.slice none 0 0, .int .i64 0, .bool false] 65)).alloc (.cells #[.pointer (some ⟨r0, 0, none⟩), .pointer (some ⟨r1, 0, none⟩), .pointer none, .pointer (some ⟨w4.heap.size, 0, none⟩)] 55)).heap[w4.heap.size + 1]? = some (.cells #[.pointer (some ⟨r0, 0, none⟩), .pointer (some ⟨r1, 0, none⟩), .pointer none, .pointer (some ⟨w4.heap.size, 0, none⟩)] 55 (0, 0))) := ⟨rl1 w4 _ _⟩
 have HR04' := Aside0.mk HR04.out
 clear HR04'
 have HB5 := Aside0.mk (below_step HB4.out hbn)
 have HLA5 := Aside0.mk (lent_below HLA4.out hbn)
 have HLB5 := Aside0.mk (lent_below HLB4.out hbn)
 have HR05 := Aside0.mk (HR04.out.below hbn)
 have HR15 := Aside0.mk (HR14.out.below hbn)
 clear HB4 HLA4 HLB4 HR04 HR14 hbn
 generalize (w4.alloc (.cells #[.slice none 0 0, .int .i64 0, .bool false] 65)).alloc (.cells #[.pointer (some ⟨r0, 0, none⟩), .pointer (some ⟨r1, 0, none⟩), .pointer none, .pointer (some ⟨w4.heap.size, 0, none⟩)] 55) = w5 at HB5 HLA5 HLB5 HR05 HR15 HG35 HGR5 ⊢
 refine (kept_calls w.heap.size ga ca one A0 c0 w5 HLA5.out (Kd.C_below H0.out HB5.out) HC0.out HL0.out).mono ?_
 rintro e w51 ⟨rfl, hb⟩
 have HB51 := Aside0.mk (below_step HB5.out hb)
 have HLA51 := Aside0.mk (lent_below HLA5.out hb)
 have HLB51 := Aside0.mk (lent_below HLB5.out hb)
 have HR051 := Aside0.mk (HR05.out.below hb)
 have HR151 := Aside0.mk (HR15.out.below hb)
 have HG351 := Aside0.mk ((hb.block _ (blk_lt HG35.out)).trans HG35.out)
 have HGR51 := Aside0.mk ((hb.block _ (blk_lt HGR5.out)).trans HGR5.out)
 clear HB5 HLA5 HLB5 HR05 HR15 HG35 HGR5 hb
 go_wp2_with fail
 refine (kept_calls w1.heap.size gb cb two A1 c1 w51 HLB51.out (Kd.C_below H1.out HB51.out) HC1.out HL1.out).mono ?_
 rintro e w6 ⟨rfl, hb⟩
 have HB6 := Aside0.mk (below_step HB51.out hb)
 have HLA6 := Aside0.mk (lent_below HLA51.out hb)
 have HLB6 := Aside0.mk (lent_below HLB51.out hb)
 have HR06 := Aside0.mk (HR051.out.below hb)
 have HR16 := Aside0.mk (HR151.out.below hb)
 have HG36 := Aside0.mk ((hb.block _ (blk_lt HG351.out)).trans HG351.out)
 have HGR6 := Aside0.mk ((hb.block _ (blk_lt HGR51.out)).trans HGR51.out)
 clear HB51 HLA51 HLB51 HR051 HR151 HG351 HGR51 hb
 go_wp2_with fail
 have HCS6 : Aside0 (∃ cs, w6.heap[ga]? = some (.cells cs 5 (0, 0)) ∧ ∀ k, k < one.length → ∃ x, cs[k]? = some (.int .u8 x)) := ⟨lent_cells HLA6.out⟩
 have hn1 : (one.length : Int) ≤ 9223372036854775807 := by have := HL0.out; omega
 go_loopg [11] one.length (fun kq v11 w' => ∃ (j : Nat), v11 = .int .i64 j ∧ Aside0 (j + kq = one.length) ∧ Aside0 (∃ cs, w'.heap[ga]? = some (.cells cs 5 (0, 0)) ∧ ∀ k, k < one.length → ∃ x, cs[k]? = some (.int .u8 x)) ∧ Aside0 (Chg (· = ga) w6 w'))
 case atStart => exact ⟨0, rfl, ⟨by omega⟩, HCS6, ⟨Chg.refl _ _⟩⟩
 case round =>
  obtain ⟨j, rfl, HJ, HCS, HX⟩ := hrel
  clear HCS6
  cases gk with
  | succ kq =>
   have hj : (j : Int) < one.length := by have := HJ.out; omega
   obtain ⟨cs, hcs, hall⟩ := HCS.out
   obtain ⟨x, hx⟩ := hall j (by omega)
   have hc := (blk_cell hcs j).trans hx
   have hf := blk_frozen hcs j
   have HCX := Aside0.mk hcs
   have HAL := Aside0.mk hall
   clear hcs hall hx
   go_wp2
   go_roundg kq
   case measure => omega
   case rel => exact ⟨j + 1, by first | rfl | simp, ⟨by have := HJ.out; omega⟩, ⟨_, blk_put HCX.out j _ rfl, fun k hk => by
    by_cases e : k = j
    · subst e
      obtain ⟨x, hx⟩ := HAL.out k hk
      have hs : k < _ := (Array.getElem?_eq_some_iff.1 hx).1
      exact ⟨_, by rw [Array.getElem?_setIfInBounds_self_of_lt hs]⟩
    · rw [Array.getElem?_setIfInBounds_ne (fun q => e q.symm)]
      exact HAL.out k hk⟩, ⟨Chg.setCell HX.out (p := ⟨ga, j, none⟩) (Or.inl rfl) _⟩⟩
  | zero =>
   obtain ⟨w7, hw7⟩ : ∃ w7, w7 = wr := ⟨_, rfl⟩
   subst hw7
   have hjl : ¬ (j : Int) < one.length := by have := HJ.out; omega
   have HJN : Aside0 (j = one.length) := ⟨by have := HJ.out; omega⟩
   have HB7 : Aside0 (Below w.heap.size w w7) := ⟨HB6.out.trans (HX.out.below HB6.out.size (fun i hi => by have e : i = ga := hi; rw [e]; exact HO2.out.1))⟩
   have HLB7 : Aside0 (Lent w7 w1.heap.size gb cb two) := ⟨lent_keep HLB6.out HX.out (fun e => by have e' : gb = ga := e; have := HO2.out; omega)⟩
   have HR07 : Aside0 (RAt w7 w2.heap.size r0 (.slice (some ⟨w2.heap.size, 0, none⟩) one.length one.length) one 0) := ⟨HR06.out.keep HX.out (fun k a e => by have e' : k = ga := e; have := HF0.out k a; have := HO2.out; omega)⟩
   have HR17 : Aside0 (RAt w7 w3.heap.size r1 (.slice (some ⟨w3.heap.size, 0, none⟩) two.length two.length) two 0) := ⟨HR16.out.keep HX.out (fun k a e => by have e' : k = ga := e; have := HF1.out k a; have := HO2.out; have := HO3.out; omega)⟩
   have HG37 : Aside0 (w7.heap[w4.heap.size]? = some (.cells #[.slice none 0 0, .int .i64 0, .bool false] 65 (0, 0))) := ⟨HX.out.heap HG36.out (fun e => by have e' : w4.heap.size = ga := e; have := HO2.out; have := HO3.out; have := HO4.out; omega)⟩
   have HGR7 : Aside0 (w7.heap[w4.heap.size + 1]? = some (.cells #[.pointer (some ⟨r0, 0, none⟩), .pointer (some ⟨r1, 0, none⟩), .pointer none, .pointer (some ⟨w4.heap.size, 0, none⟩)] 55 (0, 0))) := ⟨HX.out.heap HGR6.out (fun e => by have e' : w4.heap.size + 1 = ga := e; have := HO2.out; have := HO3.out; have := HO4.out; omega)⟩
   clear HX HCS HB6 HLA6 HLB6 HR06 HR16 HG36 HGR6
   have hb71 : Below w7.heap.size w7 ((w7.alloc (.cells #[.slice none 0 0, .int .i64 0, .slice none 0 0, .int .i64 0] 69)).alloc (.cells #[] 5)) := below_alloc (below_alloc (Below.refl _ _) _) _
   have hm71 : ((w7.alloc (.cells #[.slice none 0 0, .int .i64 0, .slice none 0 0, .int .i64 0] 69)).alloc (.cells #[] 5)).heap[w7.heap.size]? = some (.cells #[.slice none 0 0, .int .i64 0, .slice none 0 0, .int .i64 0] 69 (0, 0)) := blk_alloc (blk_new w7 _) _
   have hz71 : ((w7.alloc (.cells #[.slice none 0 0, .int .i64 0, .slice none 0 0, .int .i64 0] 69)).alloc (.cells #[] 5)).heap.size = w7.heap.size + 2 := by rw [World.size_alloc, World.size_alloc]
   have HB71 := Aside0.mk hb71
   have HM71 := Aside0.mk hm71
   have HZ71 := Aside0.mk hz71
   clear hb71 hm71 hz71
   go_wp2_with (first | ((with_reducible refine gate_builtin (b := .append) (xs := #[.tmp 67, .tmp 68]) rfl ?_); at_builtin; refine app_own (w0 := w7) rfl (.tmp 67) (.tmp 68) rfl (.slice (some ⟨w7.heap.size + 1, 0, none⟩) 0 0) one A0 c0 rfl rfl (own_empty (rl1 w7 _ _) (by omega)) (Kd.C_below H0.out (below_step HB7.out HB71.out)) HB71.out (by have := HL0.out; omega) ?_; intro v8 w8 h1 h2 h3 h4; obtain ⟨A8, c8, e8, _, _⟩ := own_C h1; subst e8; have HO8 := Aside0.mk h1; have HM8 := Aside0.mk (blk_grown HM71.out h2 (by simp [Value.ownBlock])); have HV8 : Aside0 (∀ k, (Value.slice A8 one.length c8).ownBlock = some k → w7.heap.size < k) := ⟨fun k hk => by (rcases h3 with h3 | ⟨b, h3, h5⟩); (· rw [h3] at hk; have q : w7.heap.size + 1 = k := (by simpa [Value.ownBlock] using hk); omega); (· rw [h3] at hk; cases hk; have := HZ71.out; omega)⟩; have HB8 := Aside0.mk h4; have HS8 : Aside0 (w7.heap.size + 2 ≤ w8.heap.size) := ⟨by have q := h2.size; rw [HZ71.out] at q; exact q⟩; clear h1 h2 h3 h4; have hmc : w8.cell? ⟨w7.heap.size, 0, none⟩ = some (.slice none 0 0) := (blk_cell HM8.out 0).trans rfl; have hmf := blk_frozen HM8.out 0) | ((with_reducible refine gate_builtin (b := .append) (xs := #[.tmp 72, .tmp 73]) rfl ?_); at_builtin; have hz8 : (w8.setCell ⟨w7.heap.size, 0, none⟩ (.slice A8 one.length c8)).heap.size = w8.heap.size := Go.Deep.nblk_setCell _ _ _; have HZ8 := Aside0.mk hz8; have hB8 : Below w7.heap.size w7 (w8.setCell ⟨w7.heap.size, 0, none⟩ (.slice A8 one.length c8)) := below_set HB8.out (Nat.le_refl _); have HB8X := Aside0.mk hB8; have HM8X := Aside0.mk (blk_put HM8.out 0 (.slice A8 one.length c8) rfl); have HO8X := Aside0.mk (own_move (w1 := (w8.setCell ⟨w7.heap.size, 0, none⟩ (.slice A8 one.length c8))) HO8.out (fun k hk => Below.heap_setCell _ _ _ k (by have := HV8.out k hk; exact Nat.ne_of_gt this))); clear hz8 hB8 hmc hmf; refine app_own (w0 := (w8.setCell ⟨w7.heap.size, 0, none⟩ (.slice A8 one.length c8))) rfl (.tmp 72) (.tmp 73) rfl (.slice (some ⟨w8.heap.size, 0, none⟩) 0 0) two A1 c1 rfl rfl (own_empty (by rw [← HZ8.out]; exact blk_new _ _) (Nat.le_of_eq HZ8.out)) (Kd.C_below H1.out (below_then (below_step HB7.out HB8X.out) (below_step HB7.out HB8X.out).size (below_new _ _))) (below_new _ _) (by have := HL1.out; omega) ?_; intro v9 w9 h1 h2 h3 h4; obtain ⟨A9, c9, e9, _, _⟩ := own_C h1; subst e9; have HO9 := Aside0.mk h1; have HG7 : Aside0 (w7.heap.size + 2 ≤ (w8.setCell ⟨w7.heap.size, 0, none⟩ (.slice A8 one.length c8)).heap.size) := ⟨by rw [HZ8.out]; exact HS8.out⟩; have HM9 := Aside0.mk ((h4.block _ (blk_lt HM8X.out)).trans HM8X.out); have HO89 := Aside0.mk (own_move (w1 := w9) HO8X.out (fun k hk => h4.block k (own_lt HO8X.out k hk))); have HV9 : Aside0 (∀ k, (Value.slice A9 two.length c9).ownBlock = some k → w7.heap.size < k) := ⟨fun k hk => by (rcases h3 with h3 | ⟨b, h3, h5⟩); (· rw [h3] at hk; have q : w8.heap.size = k := (by simpa [Value.ownBlock] using hk); have h := blk_lt HM8.out; omega); (· rw [h3] at hk; cases hk; rw [World.size_alloc] at h5; have := HG7.out; omega)⟩; have HB9 := Aside0.mk (below_then HB8X.out HB8X.out.size h4); have HS9 := Aside0.mk h4.size; clear h1 h2 h3 h4 HM8 HO8 HM8X HO8X HB8 HB71 HM71 HZ71; have hmc : w9.cell? ⟨w7.heap.size, 2, none⟩ = some (.slice none 0 0) := (blk_cell HM9.out 2).trans rfl; have hmf := blk_frozen HM9.out 2))
   have hbY : Below w7.heap.size w7 (w9.setCell ⟨w7.heap.size, 2, none⟩ (.slice A9 two.length c9)) := below_set HB9.out (Nat.le_refl _)
   have hMY := blk_put HM9.out 2 (.slice A9 two.length c9) rfl
   have h8Y := own_move (w1 := (w9.setCell ⟨w7.heap.size, 2, none⟩ (.slice A9 two.length c9))) HO89.out (fun k hk => Below.heap_setCell _ _ _ k (by have := HV8.out k hk; exact Nat.ne_of_gt this))
   have h9Y := own_move (w1 := (w9.setCell ⟨w7.heap.size, 2, none⟩ (.slice A9 two.length c9))) HO9.out (fun k hk => Below.heap_setCell _ _ _ k (by have := HV9.out k hk; exact Nat.ne_of_gt this))
   have hzY : w7.heap.size + 1 < (w9.setCell ⟨w7.heap.size, 2, none⟩ (.slice A9 two.length c9)).heap.size := by rw [Go.Deep.nblk_setCell]; have := HS8.out; have := HS9.out; rw [HZ8.out] at this; omega
   have HNN : Aside0 (w.heap.size ≤ w2.heap.size ∧ gb < w2.heap.size ∧ w2.heap.size ≤ r0 ∧ r0 < w4.heap.size ∧ w2.heap.size ≤ r1 ∧ r1 < w4.heap.size ∧ w4.heap.size + 1 < w7.heap.size) := ⟨by have h0 := HF0.out r0 (Or.inl rfl); have h1 := HF1.out r1 (Or.inl rfl); have h2 := HO2.out; have h3 := HO3.out; have h4 := HO4.out; have h5 := blk_lt HGR7.out; refine ⟨?_, ?_, ?_, ?_, ?_, ?_, ?_⟩ <;> omega⟩
   obtain ⟨gb0, gb1, hRS⟩ := RS.start (B := w2.heap.size) (D := w4.heap.size) (HR07.out.below hbY) ((HR17.out.below hbY).lower (Nat.le_of_lt HO3.out)) (fun k a => by have := HF0.out k a; have := HO4.out; omega) (fun k a => (HF1.out k a).2) (fun k a b => by have := HF0.out k a; have := HF1.out k b; omega) hMY h8Y HV8.out h9Y HV9.out (by have := HNN.out; omega) hzY (by have := HL0.out; omega) (by have := HL1.out; omega) HY0.out HY1.out
   have HRS7 := Aside0.mk hRS
   clear hRS hMY h8Y h9Y hzY hmc hmf HR07 HR17 HM9 HO89 HO9 HV8 HV9 HB9 HB8X HS9 HG7 HZ8 HS8
   have HBy := Aside0.mk (below_step HB7.out hbY)
   have HLBy := Aside0.mk (lent_below HLB7.out hbY)
   have HG3y := Aside0.mk ((hbY.block _ (blk_lt HG37.out)).trans HG37.out)
   have HGRy := Aside0.mk ((hbY.block _ (blk_lt HGR7.out)).trans HGR7.out)
   clear HB7 HLB7 HG37 HGR7 hbY
   generalize (w9.setCell ⟨w7.heap.size, 2, none⟩ (.slice A9 two.length c9)) = wy at HBy HLBy HG3y HGRy HRS7 ⊢
   go_loopg [13] ts.length (fun kq v13 w' => ∃ (j : Nat) (va : Value) (la : List Int) (ea : Int) (vb : Value) (lb : List Int) (eb : Int), v13 = .int .i64 j ∧ Aside0 (j + kq = ts.length) ∧ Aside0 (Below w.heap.size w w') ∧ Aside0 (Lent w' w1.heap.size gb cb two) ∧ Aside0 (RS w' w2.heap.size w4.heap.size r0 r1 w7.heap.size gb0 gb1 (va) (la) (ea) (vb) (lb) (eb) (la) (ea) (lb) (eb)) ∧ Aside0 (w'.heap[w4.heap.size]? = some (.cells #[.slice none 0 0, .int .i64 0, .bool false] 65 (0, 0))) ∧ Aside0 (w'.heap[w4.heap.size + 1]? = some (.cells #[.pointer (some ⟨r0, 0, none⟩), .pointer (some ⟨r1, 0, none⟩), .pointer none, .pointer (some ⟨w4.heap.size, 0, none⟩)] 55 (0, 0))))
   case atStart => exact ⟨0, _, _, _, _, _, _, rfl, ⟨by omega⟩, HBy, HLBy, HRS7, HG3y, HGRy⟩
   case round =>
    clear HBy HLBy HRS7 HG3y HGRy
    obtain ⟨j, va, la, ea, vb, lb, eb, rfl, HJ, HBr, HLBr, HRSr, HG3r, HGRr⟩ := hrel
    cases gk with
    | zero =>
     as_aux_lemma =>
      have hjl : ¬ (j : Int) < ts.length := by have := HJ.out; omega
      obtain ⟨Am0, cm0, Am1, cm1, hgm, _, _⟩ := HRSr.out.M
      have HGMr := Aside0.mk hgm
      clear hgm
      go_wp2_with fail
      have hbd : Below wr.heap.size wr wr.drew := below_drew1 (Below.refl _ _)
      have HB11 := Aside0.mk (below_step HBr.out hbd)
      have HLB11 := Aside0.mk (lent_below HLBr.out hbd)
      have HRS11 := Aside0.mk (HRSr.out.below hbd)
      have HG311 := Aside0.mk ((hbd.block _ (blk_lt HG3r.out)).trans HG3r.out)
      have HGR11 := Aside0.mk ((hbd.block _ (blk_lt HGRr.out)).trans HGRr.out)
      have HGM11 := Aside0.mk ((hbd.block _ (blk_lt HGMr.out)).trans HGMr.out)
      clear HBr HLBr HRSr HG3r HGRr HGMr hbd
      refine start_ (n := 36) (S := fun w' => w'.cell? ⟨w4.heap.size + 1, 0, none⟩ = some (.pointer (some ⟨r0, 0, none⟩)) ∧ w'.cell? ⟨w4.heap.size + 1, 1, none⟩ = some (.pointer (some ⟨r1, 0, none⟩)) ∧ w'.cell? ⟨w4.heap.size + 1, 2, none⟩ = some (.pointer none) ∧ w'.cell? ⟨w4.heap.size + 1, 3, none⟩ = some (.pointer (some ⟨w4.heap.size, 0, none⟩)) ∧ w'.cell? ⟨w7.heap.size, 0, none⟩ = some (.slice Am0 la.length cm0) ∧ w'.cell? ⟨w7.heap.size, 1, none⟩ = some (.int .i64 ea) ∧ w'.cell? ⟨w7.heap.size, 2, none⟩ = some (.slice Am1 lb.length cm1) ∧ w'.cell? ⟨w7.heap.size, 3, none⟩ = some (.int .i64 eb)) (ds := []) #[false, false, false, false, false, false, false, false, false, false, false, false, false, false, false, false, false, false, false, false, false, false, false, false, false, false, false, false, false, false, false, false, false, false, false, false] (by kernel_rfl) rfl rfl ⟨(blk_cell HGR11.out 0).trans rfl, (blk_cell HGR11.out 1).trans rfl, (blk_cell HGR11.out 2).trans rfl, (blk_cell HGR11.out 3).trans rfl, (blk_cell HGM11.out 0).trans rfl, (blk_cell HGM11.out 1).trans rfl, (blk_cell HGM11.out 2).trans rfl, (blk_cell HGM11.out 3).trans rfl⟩ (fun hHeld => ?_)
      refine with_tabW reads_tab29 reads_bits29 (fun HT_ HW_ => ?_)
      generalize wr.drew = w11 at HB11 HLB11 HRS11 HG311 HGR11 HGM11 hHeld ⊢
      refine pure_ (i := 0) (N := some 146) (v := ?_) (a' := ?_) #[true, false, false, false, false, false, false, false, false, false, false, false, false, false, false, false, false, false, false, false, false, false, false, false, false, false, false, false, false, false, false, false, false, false, false, false] rfl rfl (any_of HT_.out (by kernel_rfl)) (fun _ _ _ h => h) (Or.inl ⟨by rfl, ?_⟩) ?_ ?_
      rotate_left
      · intro w'
        go_simp
        with_reducible rfl
      rotate_left
      · simp only [Act.put, List.setIfInBounds_toArray, List.set_cons_zero, List.set_cons_succ, i64_w, i32_w]
        rfl
      refine pure_ (i := 1) (N := some 147) (v := ?_) (a' := ?_) #[true, true, false, false, false, false, false, false, false, false, false, false, false, false, false, false, false, false, false, false, false, false, false, false, false, false, false, false, false, false, false, false, false, false, false, false] rfl rfl (any_of HT_.out (by kernel_rfl)) (fun _ _ _ h => h) (Or.inl ⟨by rfl, ?_⟩) ?_ ?_
      rotate_left
      · intro w'
        go_simp
        with_reducible rfl
      rotate_left
      · simp only [Act.put, List.setIfInBounds_toArray, List.set_cons_zero, List.set_cons_succ, i64_w, i32_w]
        rfl
      refine take_ (i := 2) (N := some 148) (v := ?_) (a' := ?_) #[true, true, true, false, false, false, false, false, false, false, false, false, false, false, false, false, false, false, false, false, false, false, false, false, false, false, false, false, false, false, false, false, false, false, false, false] rfl rfl (take_ofW HT_.out HW_.out (by kernel_rfl)) (fun _ _ _ h => h) (Or.inl ⟨by rfl, ?_⟩) hHeld ?_ ?_
      rotate_left
      · rintro w' ⟨s0, s1, s2, s3, s4, s5, s6, s7⟩
        go_simp
        with_reducible rfl
      rotate_left
      · simp only [Act.put, List.setIfInBounds_toArray, List.set_cons_zero, List.set_cons_succ, i64_w, i32_w]
        rfl
      refine pure_ (i := 4) (N := some 150) (v := ?_) (a' := ?_) #[true, true, true, false, true, false, false, false, false, false, false, false, false, false, false, false, false, false, false, false, false, false, false, false, false, false, false, false, false, false, false, false, false, false, false, false] rfl rfl (any_of HT_.out (by kernel_rfl)) (fun _ _ _ h => h) (Or.inl ⟨by rfl, ?_⟩) ?_ ?_
      rotate_left
      · intro w'
        go_simp
        with_reducible rfl
      rotate_left
      · simp only [Act.put, List.setIfInBounds_toArray, List.set_cons_zero, List.set_cons_succ, i64_w, i32_w]
        rfl
      refine one_ (i := 3) (N := some 149) #[true, true, true, true, true, false, false, false, false, false, false, false, false, false, false, false, false, false, false, false, false, false, false, false, false, false, false, false, false, false, false, false, false, false, false, false] rfl rfl (one_of HT_.out (by kernel_rfl)) (by decide) (fun K hK => ?_)
      refine goes_ Try.func28 (by kernel_rfl) rfl #[.pointer (some ⟨r0, 0, none⟩)] (by rfl) rfl rfl (by (try simp only [List.map_toArray, List.map_cons, List.map_nil]); first | done | rfl) ?_
      refine (rEnd_calls w2.heap.size r0 va la ea w11 HRS11.out.R0).mono ?_
      rintro e w12 ⟨rfl, hw_⟩
      replace hw_ := hw_.symm
      subst hw_
      refine ⟨_, rfl, ?_⟩
      refine hK.out _ _ ⟨(blk_cell HGR11.out 0).trans rfl, (blk_cell HGR11.out 1).trans rfl, (blk_cell HGR11.out 2).trans rfl, (blk_cell HGR11.out 3).trans rfl, (blk_cell HGM11.out 0).trans rfl, (blk_cell HGM11.out 1).trans rfl, (blk_cell HGM11.out 2).trans rfl, (blk_cell HGM11.out 3).trans rfl⟩ (fun hHeld => ?_)
      clear hK K
      refine norm_ (a' := ?_) ?_ ?_
      rotate_left
      · show Act.put _ (some 149) _ = _
        simp only [Act.put, List.setIfInBounds_toArray, List.set_cons_zero, List.set_cons_succ, i64_w, i32_w]
        rfl
      refine one_ (i := 5) (N := some 151) #[true, true, true, true, true, true, false, false, false, false, false, false, false, false, false, false, false, false, false, false, false, false, false, false, false, false, false, false, false, false, false, false, false, false, false, false] rfl rfl (one_of HT_.out (by kernel_rfl)) (by decide) (fun K hK => ?_)
      refine goes_ Try.func36 (by kernel_rfl) rfl #[.pointer (some ⟨w7.heap.size, 0, none⟩)] (by rfl) rfl rfl (by (try simp only [List.map_toArray, List.map_cons, List.map_nil]); first | done | rfl) ?_
      obtain ⟨_, _, _, _, hm, _⟩ := HRS11.out.m0
      refine (mend0 _ _ _ _ _ _ _ _ _ hm).mono ?_
      rintro e w13 ⟨rfl, hw_⟩
      replace hw_ := hw_.symm
      subst hw_
      clear hm
      refine ⟨_, rfl, ?_⟩
      refine hK.out _ _ ⟨(blk_cell HGR11.out 0).trans rfl, (blk_cell HGR11.out 1).trans rfl, (blk_cell HGR11.out 2).trans rfl, (blk_cell HGR11.out 3).trans rfl, (blk_cell HGM11.out 0).trans rfl, (blk_cell HGM11.out 1).trans rfl, (blk_cell HGM11.out 2).trans rfl, (blk_cell HGM11.out 3).trans rfl⟩ (fun hHeld => ?_)
      clear hK K
      refine norm_ (a' := ?_) ?_ ?_
      rotate_left
      · show Act.put _ (some 151) _ = _
        simp only [Act.put, List.setIfInBounds_toArray, List.set_cons_zero, List.set_cons_succ, i64_w, i32_w]
        rfl
      refine pure_ (i := 6) (N := some 152) (v := ?_) (a' := ?_) #[true, true, true, true, true, true, true, false, false, false, false, false, false, false, false, false, false, false, false, false, false, false, false, false, false, false, false, false, false, false, false, false, false, false, false, false] rfl rfl (any_of HT_.out (by kernel_rfl)) (fun _ _ _ h => h) (Or.inl ⟨by rfl, ?_⟩) ?_ ?_
      rotate_left
      · intro w'
        go_simp
        with_reducible rfl
      rotate_left
      · simp only [Act.put, List.setIfInBounds_toArray, List.set_cons_zero, List.set_cons_succ, i64_w, i32_w]
        rfl
      refine pure_ (i := 7) (N := some 153) (v := ?_) (a' := ?_) #[true, true, true, true, true, true, true, true, false, false, false, false, false, false, false, false, false, false, false, false, false, false, false, false, false, false, false, false, false, false, false, false, false, false, false, false] rfl rfl (any_of HT_.out (by kernel_rfl)) (fun _ _ _ h => h) (Or.inl ⟨by rfl, ?_⟩) ?_ ?_
      rotate_left
      · intro w'
        go_simp
        with_reducible rfl
      rotate_left
      · simp only [Act.put, List.setIfInBounds_toArray, List.set_cons_zero, List.set_cons_succ, i64_w, i32_w]
        rfl
      refine pure_ (i := 8) (N := some 154) (v := ?_) (a' := ?_) #[true, true, true, true, true, true, true, true, true, false, false, false, false, false, false, false, false, false, false, false, false, false, false, false, false, false, false, false, false, false, false, false, false, false, false, false] rfl rfl (any_of HT_.out (by kernel_rfl)) (fun _ _ _ h => h) (Or.inl ⟨by rfl, ?_⟩) ?_ ?_
      rotate_left
      · intro w'
        go_simp
        with_reducible rfl
      rotate_left
      · simp only [Act.put, List.setIfInBounds_toArray, List.set_cons_zero, List.set_cons_succ, i64_w, i32_w]
        rfl
      refine pure_ (i := 9) (N := some 155) (v := ?_) (a' := ?_) #[true, true, true, true, true, true, true, true, true, true, false, false, false, false, false, false, false, false, false, false, false, false, false, false, false, false, false, false, false, false, false, false, false, false, false, false] rfl rfl (any_of HT_.out (by kernel_rfl)) (fun _ _ _ h => h) (Or.inl ⟨by rfl, ?_⟩) ?_ ?_
      rotate_left
      · intro w'
        go_simp
        with_reducible rfl
      rotate_left
      · simp only [Act.put, List.setIfInBounds_toArray, List.set_cons_zero, List.set_cons_succ, i64_w, i32_w]
        rfl
      refine take_ (i := 10) (N := some 156) (v := ?_) (a' := ?_) #[true, true, true, true, true, true, true, true, true, true, true, false, false, false, false, false, false, false, false, false, false, false, false, false, false, false, false, false, false, false, false, false, false, false, false, false] rfl rfl (take_ofW HT_.out HW_.out (by kernel_rfl)) (fun _ _ _ h => h) (Or.inl ⟨by rfl, ?_⟩) hHeld ?_ ?_
      rotate_left
      · rintro w' ⟨s0, s1, s2, s3, s4, s5, s6, s7⟩
        go_simp
        with_reducible rfl
      rotate_left
      · simp only [Act.put, List.setIfInBounds_toArray, List.set_cons_zero, List.set_cons_succ, i64_w, i32_w]
        rfl
      refine pure_ (i := 12) (N := some 158) (v := ?_) (a' := ?_) #[true, true, true, true, true, true, true, true, true, true, true, false, true, false, false, false, false, false, false, false, false, false, false, false, false, false, false, false, false, false, false, false, false, false, false, false] rfl rfl (any_of HT_.out (by kernel_rfl)) (fun _ _ _ h => h) (Or.inl ⟨by rfl, ?_⟩) ?_ ?_
      rotate_left
      · intro w'
        go_simp
        with_reducible rfl
      rotate_left
      · simp only [Act.put, List.setIfInBounds_toArray, List.set_cons_zero, List.set_cons_succ, i64_w, i32_w]
        rfl
      refine one_ (i := 11) (N := some 157) #[true, true, true, true, true, true, true, true, true, true, true, true, true, false, false, false, false, false, false, false, false, false, false, false, false, false, false, false, false, false, false, false, false, false, false, false] rfl rfl (one_of HT_.out (by kernel_rfl)) (by decide) (fun K hK => ?_)
      refine goes_ Try.func28 (by kernel_rfl) rfl #[.pointer (some ⟨r1, 0, none⟩)] (by rfl) rfl rfl (by (try simp only [List.map_toArray, List.map_cons, List.map_nil]); first | done | rfl) ?_
      refine (rEnd_calls w2.heap.size r1 vb lb eb w11 HRS11.out.R1).mono ?_
      rintro e w14 ⟨rfl, hw_⟩
      replace hw_ := hw_.symm
      subst hw_
      refine ⟨_, rfl, ?_⟩
      refine hK.out _ _ ⟨(blk_cell HGR11.out 0).trans rfl, (blk_cell HGR11.out 1).trans rfl, (blk_cell HGR11.out 2).trans rfl, (blk_cell HGR11.out 3).trans rfl, (blk_cell HGM11.out 0).trans rfl, (blk_cell HGM11.out 1).trans rfl, (blk_cell HGM11.out 2).trans rfl, (blk_cell HGM11.out 3).trans rfl⟩ (fun hHeld => ?_)
      clear hK K
      refine norm_ (a' := ?_) ?_ ?_
      rotate_left
      · show Act.put _ (some 157) _ = _
        simp only [Act.put, List.setIfInBounds_toArray, List.set_cons_zero, List.set_cons_succ, i64_w, i32_w]
        rfl
      refine one_ (i := 13) (N := some 159) #[true, true, true, true, true, true, true, true, true, true, true, true, true, true, false, false, false, false, false, false, false, false, false, false, false, false, false, false, false, false, false, false, false, false, false, false] rfl rfl (one_of HT_.out (by kernel_rfl)) (by decide) (fun K hK => ?_)
      refine goes_ Try.func36 (by kernel_rfl) rfl #[.pointer (some ⟨w7.heap.size, 2, none⟩)] (by rfl) rfl rfl (by (try simp only [List.map_toArray, List.map_cons, List.map_nil]); first | done | rfl) ?_
      obtain ⟨_, _, _, _, hm, _⟩ := HRS11.out.m1
      refine (mend1 _ _ _ _ _ _ _ _ _ hm).mono ?_
      rintro e w15 ⟨rfl, hw_⟩
      replace hw_ := hw_.symm
      subst hw_
      clear hm
      refine ⟨_, rfl, ?_⟩
      refine hK.out _ _ ⟨(blk_cell HGR11.out 0).trans rfl, (blk_cell HGR11.out 1).trans rfl, (blk_cell HGR11.out 2).trans rfl, (blk_cell HGR11.out 3).trans rfl, (blk_cell HGM11.out 0).trans rfl, (blk_cell HGM11.out 1).trans rfl, (blk_cell HGM11.out 2).trans rfl, (blk_cell HGM11.out 3).trans rfl⟩ (fun hHeld => ?_)
      clear hK K
      refine norm_ (a' := ?_) ?_ ?_
      rotate_left
      · show Act.put _ (some 159) _ = _
        simp only [Act.put, List.setIfInBounds_toArray, List.set_cons_zero, List.set_cons_succ, i64_w, i32_w]
        rfl
      refine pure_ (i := 14) (N := some 160) (v := ?_) (a' := ?_) #[true, true, true, true, true, true, true, true, true, true, true, true, true, true, true, false, false, false, false, false, false, false, false, false, false, false, false, false, false, false, false, false, false, false, false, false] rfl rfl (any_of HT_.out (by kernel_rfl)) (fun _ _ _ h => h) (Or.inl ⟨by rfl, ?_⟩) ?_ ?_
      rotate_left
      · intro w'
        go_simp
        with_reducible rfl
      rotate_left
      · simp only [Act.put, List.setIfInBounds_toArray, List.set_cons_zero, List.set_cons_succ, i64_w, i32_w]
        rfl
      refine pure_ (i := 15) (N := some 161) (v := ?_) (a' := ?_) #[true, true, true, true, true, true, true, true, true, true, true, true, true, true, true, true, false, false, false, false, false, false, false, false, false, false, false, false, false, false, false, false, false, false, false, false] rfl rfl (any_of HT_.out (by kernel_rfl)) (fun _ _ _ h => h) (Or.inl ⟨by rfl, ?_⟩) ?_ ?_
      rotate_left
      · intro w'
        go_simp
        with_reducible rfl
      rotate_left
      · simp only [Act.put, List.setIfInBounds_toArray, List.set_cons_zero, List.set_cons_succ, i64_w, i32_w]
        rfl
      refine pure_ (i := 16) (N := some 162) (v := ?_) (a' := ?_) #[true, true, true, true, true, true, true, true, true, true, true, true, true, true, true, true, true, false, false, false, false, false, false, false, false, false, false, false, false, false, false, false, false, false, false, false] rfl rfl (any_of HT_.out (by kernel_rfl)) (fun _ _ _ h => h) (Or.inl ⟨by rfl, ?_⟩) ?_ ?_
      rotate_left
      · intro w'
        go_simp
        with_reducible rfl
      rotate_left
      · simp only [Act.put, List.setIfInBounds_toArray, List.set_cons_zero, List.set_cons_succ, i64_w, i32_w]
        rfl
      refine pure_ (i := 17) (N := some 163) (v := ?_) (a' := ?_) #[true, true, true, true, true, true, true, true, true, true, true, true, true, true, true, true, true, true, false, false, false, false, false, false, false, false, false, false, false, false, false, false, false, false, false, false] rfl rfl (any_of HT_.out (by kernel_rfl)) (fun _ _ _ h => h) (Or.inl ⟨by rfl, ?_⟩) ?_ ?_
      rotate_left
      · intro w'
        go_simp
        with_reducible rfl
      rotate_left
      · simp only [Act.put, List.setIfInBounds_toArray, List.set_cons_zero, List.set_cons_succ, i64_w, i32_w]
        rfl
      refine pure_ (i := 21) (N := some 167) (v := ?_) (a' := ?_) #[true, true, true, true, true, true, true, true, true, true, true, true, true, true, true, true, true, true, false, false, false, true, false, false, false, false, false, false, false, false, false, false, false, false, false, false] rfl rfl (any_of HT_.out (by kernel_rfl)) (fun _ _ _ h => h) (Or.inl ⟨by rfl, ?_⟩) ?_ ?_
      rotate_left
      · intro w'
        go_simp
        with_reducible rfl
      rotate_left
      · simp only [Act.put, List.setIfInBounds_toArray, List.set_cons_zero, List.set_cons_succ, i64_w, i32_w]
        rfl
      refine pure_ (i := 18) (N := some 164) (v := ?_) (a' := ?_) #[true, true, true, true, true, true, true, true, true, true, true, true, true, true, true, true, true, true, true, false, false, true, false, false, false, false, false, false, false, false, false, false, false, false, false, false] rfl rfl (any_of HT_.out (by kernel_rfl)) (fun _ _ _ h => h) (Or.inl ⟨by rfl, ?_⟩) ?_ ?_
      rotate_left
      · intro w'
        go_simp
        with_reducible rfl
      rotate_left
      · simp only [Act.put, List.setIfInBounds_toArray, List.set_cons_zero, List.set_cons_succ, i64_w, i32_w]
        rfl
      refine pure_ (i := 22) (N := some 168) (v := ?_) (a' := ?_) #[true, true, true, true, true, true, true, true, true, true, true, true, true, true, true, true, true, true, true, false, false, true, true, false, false, false, false, false, false, false, false, false, false, false, false, false] rfl rfl (any_of HT_.out (by kernel_rfl)) (fun _ _ _ h => h) (Or.inl ⟨by rfl, ?_⟩) ?_ ?_
      rotate_left
      · intro w'
        go_simp
        with_reducible rfl
      rotate_left
      · simp only [Act.put, List.setIfInBounds_toArray, List.set_cons_zero, List.set_cons_succ, i64_w, i32_w]
        rfl
      refine take_ (i := 23) (N := some 169) (v := ?_) (a' := ?_) #[true, true, true, true, true, true, true, true, true, true, true, true, true, true, true, true, true, true, true, false, false, true, true, true, false, false, false, false, false, false, false, false, false, false, false, false] rfl rfl (take_ofW HT_.out HW_.out (by kernel_rfl)) (fun _ _ _ h => h) (Or.inl ⟨by rfl, ?_⟩) hHeld ?_ ?_
      rotate_left
      · rintro w' ⟨s0, s1, s2, s3, s4, s5, s6, s7⟩
        go_simp
        with_reducible rfl
      rotate_left
      · simp only [Act.put, List.setIfInBounds_toArray, List.set_cons_zero, List.set_cons_succ, i64_w, i32_w]
        rfl
      refine pure_ (i := 24) (N := some 170) (v := ?_) (a' := ?_) #[true, true, true, true, true, true, true, true, true, true, true, true, true, true, true, true, true, true, true, false, false, true, true, true, true, false, false, false, false, false, false, false, false, false, false, false] rfl rfl (any_of HT_.out (by kernel_rfl)) (fun _ _ _ h => h) (Or.inl ⟨by rfl, ?_⟩) ?_ ?_
      rotate_left
      · intro w'
        go_simp
        with_reducible rfl
      rotate_left
      · simp only [Act.put, List.setIfInBounds_toArray, List.set_cons_zero, List.set_cons_succ, i64_w, i32_w]
        rfl
      refine take_ (i := 19) (N := some 165) (v := ?_) (a' := ?_) #[true, true, true, true, true, true, true, true, true, true, true, true, true, true, true, true, true, true, true, true, false, true, true, true, true, false, false, false, false, false, false, false, false, false, false, false] rfl rfl (take_ofW HT_.out HW_.out (by kernel_rfl)) (fun _ _ _ h => h) (Or.inl ⟨by rfl, ?_⟩) hHeld ?_ ?_
      rotate_left
      · rintro w' ⟨s0, s1, s2, s3, s4, s5, s6, s7⟩
        go_simp
        with_reducible rfl
      rotate_left
      · simp only [Act.put, List.setIfInBounds_toArray, List.set_cons_zero, List.set_cons_succ, i64_w, i32_w]
        rfl
      refine one_ (i := 20) (N := some 166) #[true, true, true, true, true, true, true, true, true, true, true, true, true, true, true, true, true, true, true, true, true, true, true, true, true, false, false, false, false, false, false, false, false, false, false, false] rfl rfl (one_of HT_.out (by kernel_rfl)) (by decide) (fun K hK => ?_)
      refine goes_ Try.func27 (by kernel_rfl) rfl #[.pointer (some ⟨r1, 0, none⟩)] (by rfl) rfl rfl (by (try simp only [List.map_toArray, List.map_cons, List.map_nil]); first | done | rfl) ?_
      refine (rLeft_calls w2.heap.size r1 vb lb eb w11 HRS11.out.R1).mono ?_
      rintro e w16 ⟨rfl, hw_⟩
      replace hw_ := hw_.symm
      subst hw_
      refine ⟨_, rfl, ?_⟩
      refine hK.out _ _ ⟨(blk_cell HGR11.out 0).trans rfl, (blk_cell HGR11.out 1).trans rfl, (blk_cell HGR11.out 2).trans rfl, (blk_cell HGR11.out 3).trans rfl, (blk_cell HGM11.out 0).trans rfl, (blk_cell HGM11.out 1).trans rfl, (blk_cell HGM11.out 2).trans rfl, (blk_cell HGM11.out 3).trans rfl⟩ (fun hHeld => ?_)
      clear hK K
      refine norm_ (a' := ?_) ?_ ?_
      rotate_left
      · show Act.put _ (some 166) _ = _
        simp only [Act.put, List.setIfInBounds_toArray, List.set_cons_zero, List.set_cons_succ, i64_w, i32_w]
        rfl
      refine pure_ (i := 25) (N := some 171) (v := ?_) (a' := ?_) #[true, true, true, true, true, true, true, true, true, true, true, true, true, true, true, true, true, true, true, true, true, true, true, true, true, true, false, false, false, false, false, false, false, false, false, false] rfl rfl (any_of HT_.out (by kernel_rfl)) (fun _ _ _ h => h) (Or.inl ⟨by rfl, ?_⟩) ?_ ?_
      rotate_left
      · intro w'
        go_simp
        with_reducible rfl
      rotate_left
      · simp only [Act.put, List.setIfInBounds_toArray, List.set_cons_zero, List.set_cons_succ, i64_w, i32_w]
        rfl
      refine pure_ (i := 26) (N := some 172) (v := ?_) (a' := ?_) #[true, true, true, true, true, true, true, true, true, true, true, true, true, true, true, true, true, true, true, true, true, true, true, true, true, true, true, false, false, false, false, false, false, false, false, false] rfl rfl (any_of HT_.out (by kernel_rfl)) (fun _ _ _ h => h) (Or.inl ⟨by rfl, ?_⟩) ?_ ?_
      rotate_left
      · intro w'
        go_simp
        with_reducible rfl
      rotate_left
      · simp only [Act.put, List.setIfInBounds_toArray, List.set_cons_zero, List.set_cons_succ, i64_w, i32_w]
        rfl
      refine pure_ (i := 27) (N := some 173) (v := ?_) (a' := ?_) #[true, true, true, true, true, true, true, true, true, true, true, true, true, true, true, true, true, true, true, true, true, true, true, true, true, true, true, true, false, false, false, false, false, false, false, false] rfl rfl (any_of HT_.out (by kernel_rfl)) (fun _ _ _ h => h) (Or.inl ⟨by rfl, ?_⟩) ?_ ?_
      rotate_left
      · intro w'
        go_simp
        with_reducible rfl
      rotate_left
      · simp only [Act.put, List.setIfInBounds_toArray, List.set_cons_zero, List.set_cons_succ, i64_w, i32_w]
        rfl
      refine pure_ (i := 28) (N := some 174) (v := ?_) (a' := ?_) #[true, true, true, true, true, true, true, true, true, true, true, true, true, true, true, true, true, true, true, true, true, true, true, true, true, true, true, true, true, false, false, false, false, false, false, false] rfl rfl (any_of HT_.out (by kernel_rfl)) (fun _ _ _ h => h) (Or.inl ⟨by rfl, ?_⟩) ?_ ?_
      rotate_left
      · intro w'
        go_simp
        with_reducible rfl
      rotate_left
      · simp only [Act.put, List.setIfInBounds_toArray, List.set_cons_zero, List.set_cons_succ, i64_w, i32_w]
        rfl
      refine pure_ (i := 29) (N := some 175) (v := ?_) (a' := ?_) #[true, true, true, true, true, true, true, true, true, true, true, true, true, true, true, true, true, true, true, true, true, true, true, true, true, true, true, true, true, true, false, false, false, false, false, false] rfl rfl (any_of HT_.out (by kernel_rfl)) (fun _ _ _ h => h) (Or.inl ⟨by rfl, ?_⟩) ?_ ?_
      rotate_left
      · intro w'
        go_simp
        with_reducible rfl
      rotate_left
      · simp only [Act.put, List.setIfInBounds_toArray, List.set_cons_zero, List.set_cons_succ, i64_w, i32_w]
        rfl
      refine one_ (i := 30) (N := some 176) #[true, true, true, true, true, true, true, true, true, true, true, true, true, true, true, true, true, true, true, true, true, true, true, true, true, true, true, true, true, true, true, false, false, false, false, false] rfl rfl (one_of HT_.out (by kernel_rfl)) (by decide) (fun K hK => ?_)
      refine goes_ Try.func16 (by kernel_rfl) rfl #[.slice (some ⟨gb, 0, none⟩) two.length cb, .slice A1 two.length c1] (by rfl) rfl rfl (by (try simp only [List.map_toArray, List.map_cons, List.map_nil]); first | done | rfl) ?_
      refine (kept_calls w1.heap.size gb cb two A1 c1 w11 HLB11.out (Kd.C_below H1.out HB11.out) HC1.out HL1.out).mono ?_
      rintro e w17 ⟨rfl, hb⟩
      refine ⟨_, rfl, ?_⟩
      have HB17 := Aside0.mk (below_step HB11.out hb)
      have HLB17 := Aside0.mk (lent_below HLB11.out hb)
      have HRS17 := Aside0.mk (HRS11.out.below hb)
      have HG317 := Aside0.mk ((hb.block _ (blk_lt HG311.out)).trans HG311.out)
      have HGR17 := Aside0.mk ((hb.block _ (blk_lt HGR11.out)).trans HGR11.out)
      have HGM17 := Aside0.mk ((hb.block _ (blk_lt HGM11.out)).trans HGM11.out)
      clear HB11 HLB11 HRS11 HG311 HGR11 HGM11 hb
      refine hK.out _ _ ⟨(blk_cell HGR17.out 0).trans rfl, (blk_cell HGR17.out 1).trans rfl, (blk_cell HGR17.out 2).trans rfl, (blk_cell HGR17.out 3).trans rfl, (blk_cell HGM17.out 0).trans rfl, (blk_cell HGM17.out 1).trans rfl, (blk_cell HGM17.out 2).trans rfl, (blk_cell HGM17.out 3).trans rfl⟩ (fun hHeld => ?_)
      clear hK K
      refine norm_ (a' := ?_) ?_ ?_
      rotate_left
      · show Act.put _ (some 176) _ = _
        simp only [Act.put, List.setIfInBounds_toArray, List.set_cons_zero, List.set_cons_succ, i64_w, i32_w]
        rfl
      refine pure_ (i := 31) (N := some 177) (v := ?_) (a' := ?_) #[true, true, true, true, true, true, true, true, true, true, true, true, true, true, true, true, true, true, true, true, true, true, true, true, true, true, true, true, true, true, true, true, false, false, false, false] rfl rfl (any_of HT_.out (by kernel_rfl)) (fun _ _ _ h => h) (Or.inl ⟨by rfl, ?_⟩) ?_ ?_
      rotate_left
      · intro w'
        go_simp
        with_reducible rfl
      rotate_left
      · simp only [Act.put, List.setIfInBounds_toArray, List.set_cons_zero, List.set_cons_succ, i64_w, i32_w]
        rfl
      refine pure_ (i := 32) (N := some 178) (v := ?_) (a' := ?_) #[true, true, true, true, true, true, true, true, true, true, true, true, true, true, true, true, true, true, true, true, true, true, true, true, true, true, true, true, true, true, true, true, true, false, false, false] rfl rfl (any_of HT_.out (by kernel_rfl)) (fun _ _ _ h => h) (Or.inl ⟨by rfl, ?_⟩) ?_ ?_
      rotate_left
      · intro w'
        go_simp
        with_reducible rfl
      rotate_left
      · simp only [Act.put, List.setIfInBounds_toArray, List.set_cons_zero, List.set_cons_succ, i64_w, i32_w]
        rfl
      refine one_ (i := 33) (N := some 179) #[true, true, true, true, true, true, true, true, true, true, true, true, true, true, true, true, true, true, true, true, true, true, true, true, true, true, true, true, true, true, true, true, true, true, false, false] rfl rfl (one_of HT_.out (by kernel_rfl)) (by decide) (fun K hK => ?_)
      refine goes_ Try.func17 (by kernel_rfl) rfl #[] (by rfl) rfl rfl (by (try simp only [List.map_toArray, List.map_cons, List.map_nil]); first | done | rfl) ?_
      refine (cabstandlaw02_lives.calls true _ rfl).mono ?_
      rintro e w18 ⟨rfl, hb⟩
      refine ⟨_, rfl, ?_⟩
      have HB18 := Aside0.mk (below_step HB17.out hb)
      have HLB18 := Aside0.mk (lent_below HLB17.out hb)
      have HRS18 := Aside0.mk (HRS17.out.below hb)
      have HG318 := Aside0.mk ((hb.block _ (blk_lt HG317.out)).trans HG317.out)
      have HGR18 := Aside0.mk ((hb.block _ (blk_lt HGR17.out)).trans HGR17.out)
      have HGM18 := Aside0.mk ((hb.block _ (blk_lt HGM17.out)).trans HGM17.out)
      clear HB17 HLB17 HRS17 HG317 HGR17 HGM17 hb
      refine hK.out _ _ ⟨(blk_cell HGR18.out 0).trans rfl, (blk_cell HGR18.out 1).trans rfl, (blk_cell HGR18.out 2).trans rfl, (blk_cell HGR18.out 3).trans rfl, (blk_cell HGM18.out 0).trans rfl, (blk_cell HGM18.out 1).trans rfl, (blk_cell HGM18.out 2).trans rfl, (blk_cell HGM18.out 3).trans rfl⟩ (fun hHeld => ?_)
      clear hK K
      refine norm_ (a' := ?_) ?_ ?_
      rotate_left
      · show Act.put _ (some 179) _ = _
        simp only [Act.put, List.setIfInBounds_toArray, List.set_cons_zero, List.set_cons_succ, i64_w, i32_w]
        rfl
      refine pure_ (i := 34) (N := some 180) (v := ?_) (a' := ?_) #[true, true, true, true, true, true, true, true, true, true, true, true, true, true, true, true, true, true, true, true, true, true, true, true, true, true, true, true, true, true, true, true, true, true, true, false] rfl rfl (any_of HT_.out (by kernel_rfl)) (fun _ _ _ h => h) (Or.inl ⟨by rfl, ?_⟩) ?_ ?_
      rotate_left
      · intro w'
        go_simp
        with_reducible rfl
      rotate_left
      · simp only [Act.put, List.setIfInBounds_toArray, List.set_cons_zero, List.set_cons_succ, i64_w, i32_w]
        rfl
      refine pure_ (i := 35) (N := some 6) (v := ?_) (a' := ?_) #[true, true, true, true, true, true, true, true, true, true, true, true, true, true, true, true, true, true, true, true, true, true, true, true, true, true, true, true, true, true, true, true, true, true, true, true] rfl rfl (any_of HT_.out (by kernel_rfl)) (fun _ _ _ h => h) (Or.inl ⟨by rfl, ?_⟩) ?_ ?_
      rotate_left
      · intro w'
        go_simp
        with_reducible rfl
      rotate_left
      · simp only [Act.put, List.setIfInBounds_toArray, List.set_cons_zero, List.set_cons_succ, i64_w, i32_w]
        rfl
      refine done_ (done_of HT_.out (by kernel_rfl)) ?_
      clear hHeld HT_ HW_
      try go_wp2
      go_ret
      exact ⟨rfl, HB18.out⟩
    | succ kq =>
     have hj : j < ts.length := by have := HJ.out; omega
     obtain ⟨t, a, A', c', ht, ha, h8, hlc, hC, q0, q1, q2, q3, q4, q5, q6, q7, q8, q9, q10, q11, q12, q13, q14, q15⟩ := th_at (Kd.C_below H2.out HBr.out) hj
     subst ha
     have HTM : Aside0 (t.w ≤ 9223372036854775807) := ⟨HT.out t (List.mem_of_getElem? ht)⟩
     clear h8 hlc hC ht
     have hjl : (j : Int) < ts.length := by omega
     have hjL : (j : Int) + 1 ≤ 9223372036854775807 := by have := H2.out.2.1; omega
     obtain ⟨kk, hkf, hk0, hk1⟩ := round_nr t.1 4 (by decide) (by decide)
     have HKF := Aside0.mk hkf
     clear hkf
     go_wp2_with fail
     refine (cabstandlaw02_round.calls t.1 4 kk _ HKF.out).mono ?_
     rintro e w11_ ⟨rfl, nq, rfl⟩
     have hbn : Below wr.heap.size wr ((wr.alloc (.cells #[.int .i64 t.1, .int .i64 t.kind, .int .u64 t.n, .int .i64 t.i, .int .i64 t.w, .int .u8 (rd t.id 0), .int .u8 (rd t.id 1), .int .u8 (rd t.id 2), .int .u8 (rd t.id 3), .int .u8 (rd t.id 4), .int .u8 (rd t.id 5), .int .u8 (rd t.id 6), .int .u8 (rd t.id 7), .int .i16 t.p.1, .int .i16 t.p.2, .slice A' t.t.length c'] 46)).drewN nq) := pw_below_drewN (below_new wr _) nq
     have HGT11 : Aside0 (((wr.alloc (.cells #[.int .i64 t.1, .int .i64 t.kind, .int .u64 t.n, .int .i64 t.i, .int .i64 t.w, .int .u8 (rd t.id 0), .int .u8 (rd t.id 1), .int .u8 (rd t.id 2), .int .u8 (rd t.id 3), .int .u8 (rd t.id 4), .int .u8 (rd t.id 5), .int .u8 (rd t.id 6), .int .u8 (rd t.id 7), .int .i16 t.p.1, .int .i16 t.p.2, .slice A' t.t.length c'] 46)).drewN nq).heap[wr.heap.size]? = some (.cells #[.int .i64 t.1, .int .i64 t.kind, .int .u64 t.n, .int .i64 t.i, .int .i64 t.w, .int .u8 (rd t.id 0), .int .u8 (rd t.id 1), .int .u8 (rd t.id 2), .int .u8 (rd t.id 3), .int .u8 (rd t.id 4), .int .u8 (rd t.id 5), .int .u8 (rd t.id 6), .int .u8 (rd t.id 7), .int .i16 t.p.1, .int .i16 t.p.2, .slice A' t.t.length c'] 46 (0, 0))) := ⟨blk_drewN (blk_new wr _) nq⟩
     have HTN : Aside0 (w7.heap.size < wr.heap.size ∧ gb0 < wr.heap.size ∧ gb1 < wr.heap.size) := ⟨HRSr.out.gmlt, HRSr.out.n.2.2.2⟩
     have HB11 := Aside0.mk (below_step HBr.out hbn)
     have HLB11 := Aside0.mk (lent_below HLBr.out hbn)
     have HRS11 := Aside0.mk (HRSr.out.below hbn)
     have HG311 := Aside0.mk ((hbn.block _ (blk_lt HG3r.out)).trans HG3r.out)
     have HGR11 := Aside0.mk ((hbn.block _ (blk_lt HGRr.out)).trans HGRr.out)
     clear HBr HLBr HRSr HG3r HGRr hbn
     generalize (wr.alloc (.cells #[.int .i64 t.1, .int .i64 t.kind, .int .u64 t.n, .int .i64 t.i, .int .i64 t.w, .int .u8 (rd t.id 0), .int .u8 (rd t.id 1), .int .u8 (rd t.id 2), .int .u8 (rd t.id 3), .int .u8 (rd t.id 4), .int .u8 (rd t.id 5), .int .u8 (rd t.id 6), .int .u8 (rd t.id 7), .int .i16 t.p.1, .int .i16 t.p.2, .slice A' t.t.length c'] 46)).drewN nq = w11 at HB11 HLB11 HRS11 HG311 HGR11 HGT11 ⊢
     clear q0 q1 q2 q3 q4 q5 q6 q7 q8 q9 q10 q11 q12 q13 q14 q15
     have hcase : kk = 0 ∨ kk = 1 ∨ kk = 2 ∨ kk = 3 := by omega
     clear hk0 hk1 HKF
     rcases hcase with rfl | rfl | rfl | rfl
     · as_aux_lemma =>
        obtain ⟨g, hg⟩ : ∃ g, g = (tookR t la ea).1 := ⟨_, rfl⟩
        obtain ⟨lx, hlx⟩ : ∃ lx, lx = (tookR t la ea).2.1 := ⟨_, rfl⟩
        obtain ⟨ex, hex⟩ : ∃ ex, ex = (tookR t la ea).2.2 := ⟨_, rfl⟩
        have HQ : Aside0 (g = (tookR t la ea).1 ∧ lx = (tookR t la ea).2.1 ∧ ex = (tookR t la ea).2.2) := ⟨hg, hlx, hex⟩
        have HYX : Aside0 (IsBytes lx) := ⟨by rw [hlx]; exact HRS11.out.y0.suf (suf_took t la ea)⟩
        clear hg hlx hex
        go_wp2_with fail
        have hbd : Below w11.heap.size w11 w11.drew := below_drew1 (Below.refl _ _)
        have HB12 := Aside0.mk (below_step HB11.out hbd)
        have HLB12 := Aside0.mk (lent_below HLB11.out hbd)
        have HRS12 := Aside0.mk (HRS11.out.below hbd)
        have HG312 := Aside0.mk ((hbd.block _ (blk_lt HG311.out)).trans HG311.out)
        have HGR12 := Aside0.mk ((hbd.block _ (blk_lt HGR11.out)).trans HGR11.out)
        have HGT12 := Aside0.mk ((hbd.block _ (blk_lt HGT11.out)).trans HGT11.out)
        clear HB11 HLB11 HRS11 HG311 HGR11 HGT11 hbd
        refine start_ (n := 8) (S := fun w' => w'.cell? ⟨w4.heap.size + 1, 0, none⟩ = some (.pointer (some ⟨r0, 0, none⟩)) ∧ w'.cell? ⟨w4.heap.size + 1, 1, none⟩ = some (.pointer (some ⟨r1, 0, none⟩)) ∧ w'.cell? ⟨w4.heap.size + 1, 2, none⟩ = some (.pointer none) ∧ w'.cell? ⟨w4.heap.size + 1, 3, none⟩ = some (.pointer (some ⟨w4.heap.size, 0, none⟩)) ∧ w'.cell? ⟨wr.heap.size, 0, none⟩ = some (.int .i64 t.1) ∧ w'.cell? ⟨wr.heap.size, 1, none⟩ = some (.int .i64 t.kind) ∧ w'.cell? ⟨wr.heap.size, 2, none⟩ = some (.int .u64 t.n) ∧ w'.cell? ⟨wr.heap.size, 3, none⟩ = some (.int .i64 t.i) ∧ w'.cell? ⟨wr.heap.size, 4, none⟩ = some (.int .i64 t.w) ∧ w'.cell? ⟨wr.heap.size, 5, none⟩ = some (.int .u8 (rd t.id 0)) ∧ w'.cell? ⟨wr.heap.size, 6, none⟩ = some (.int .u8 (rd t.id 1)) ∧ w'.cell? ⟨wr.heap.size, 7, none⟩ = some (.int .u8 (rd t.id 2)) ∧ w'.cell? ⟨wr.heap.size, 8, none⟩ = some (.int .u8 (rd t.id 3)) ∧ w'.cell? ⟨wr.heap.size, 9, none⟩ = some (.int .u8 (rd t.id 4)) ∧ w'.cell? ⟨wr.heap.size, 10, none⟩ = some (.int .u8 (rd t.id 5)) ∧ w'.cell? ⟨wr.heap.size, 11, none⟩ = some (.int .u8 (rd t.id 6)) ∧ w'.cell? ⟨wr.heap.size, 12, none⟩ = some (.int .u8 (rd t.id 7)) ∧ w'.cell? ⟨wr.heap.size, 13, none⟩ = some (.int .i16 t.p.1) ∧ w'.cell? ⟨wr.heap.size, 14, none⟩ = some (.int .i16 t.p.2) ∧ w'.cell? ⟨wr.heap.size, 15, none⟩ = some (.slice A' t.t.length c')) (ds := []) #[false, false, false, false, false, false, false, false] (by kernel_rfl) rfl rfl ⟨(blk_cell HGR12.out 0).trans rfl, (blk_cell HGR12.out 1).trans rfl, (blk_cell HGR12.out 2).trans rfl, (blk_cell HGR12.out 3).trans rfl, (blk_cell HGT12.out 0).trans rfl, (blk_cell HGT12.out 1).trans rfl, (blk_cell HGT12.out 2).trans rfl, (blk_cell HGT12.out 3).trans rfl, (blk_cell HGT12.out 4).trans rfl, (blk_cell HGT12.out 5).trans rfl, (blk_cell HGT12.out 6).trans rfl, (blk_cell HGT12.out 7).trans rfl, (blk_cell HGT12.out 8).trans rfl, (blk_cell HGT12.out 9).trans rfl, (blk_cell HGT12.out 10).trans rfl, (blk_cell HGT12.out 11).trans rfl, (blk_cell HGT12.out 12).trans rfl, (blk_cell HGT12.out 13).trans rfl, (blk_cell HGT12.out 14).trans rfl, (blk_cell HGT12.out 15).trans rfl⟩ (fun hHeld => ?_)
        refine with_tabW reads_tab19 reads_bits19 (fun HT_ HW_ => ?_)
        generalize w11.drew = w12 at HB12 HLB12 HRS12 HG312 HGR12 HGT12 hHeld ⊢
        refine pure_ (i := 0) (N := some 90) (v := ?_) (a' := ?_) #[true, false, false, false, false, false, false, false] rfl rfl (any_of HT_.out (by kernel_rfl)) (fun _ _ _ h => h) (Or.inl ⟨by rfl, ?_⟩) ?_ ?_
        rotate_left
        · intro w'
          go_simp
          with_reducible rfl
        rotate_left
        · simp only [Act.put, List.setIfInBounds_toArray, List.set_cons_zero, List.set_cons_succ, i64_w, i32_w]
          rfl
        refine pure_ (i := 1) (N := some 91) (v := ?_) (a' := ?_) #[true, true, false, false, false, false, false, false] rfl rfl (any_of HT_.out (by kernel_rfl)) (fun _ _ _ h => h) (Or.inl ⟨by rfl, ?_⟩) ?_ ?_
        rotate_left
        · intro w'
          go_simp
          with_reducible rfl
        rotate_left
        · simp only [Act.put, List.setIfInBounds_toArray, List.set_cons_zero, List.set_cons_succ, i64_w, i32_w]
          rfl
        refine pure_ (i := 2) (N := some 92) (v := ?_) (a' := ?_) #[true, true, true, false, false, false, false, false] rfl rfl (any_of HT_.out (by kernel_rfl)) (fun _ _ _ h => h) (Or.inl ⟨by rfl, ?_⟩) ?_ ?_
        rotate_left
        · intro w'
          go_simp
          with_reducible rfl
        rotate_left
        · simp only [Act.put, List.setIfInBounds_toArray, List.set_cons_zero, List.set_cons_succ, i64_w, i32_w]
          rfl
        refine take_ (i := 3) (N := some 93) (v := ?_) (a' := ?_) #[true, true, true, true, false, false, false, false] rfl rfl (take_ofW HT_.out HW_.out (by kernel_rfl)) (fun _ _ _ h => h) (Or.inl ⟨by rfl, ?_⟩) hHeld ?_ ?_
        rotate_left
        · rintro w' ⟨s0, s1, s2, s3, s4, s5, s6, s7, s8, s9, s10, s11, s12, s13, s14, s15, s16, s17, s18, s19⟩
          go_simp
          with_reducible rfl
        rotate_left
        · simp only [Act.put, List.setIfInBounds_toArray, List.set_cons_zero, List.set_cons_succ, i64_w, i32_w]
          rfl
        refine take_ (i := 4) (N := some 94) (v := ?_) (a' := ?_) #[true, true, true, true, true, false, false, false] rfl rfl (take_ofW HT_.out HW_.out (by kernel_rfl)) (fun _ _ _ h => h) (Or.inl ⟨by rfl, ?_⟩) hHeld ?_ ?_
        rotate_left
        · rintro w' ⟨s0, s1, s2, s3, s4, s5, s6, s7, s8, s9, s10, s11, s12, s13, s14, s15, s16, s17, s18, s19⟩
          go_simp
          with_reducible rfl
        rotate_left
        · simp only [Act.put, List.setIfInBounds_toArray, List.set_cons_zero, List.set_cons_succ, i64_w, i32_w]
          rfl
        refine join_ (σ := Option Addr × Nat × Nat × Value) 1 #[true, true, true, true, true, true, true, false] (fun s => [(95, .agg #[.int .i64 g.1, .int .i64 g.kind, .int .u64 g.n, .int .i64 g.i, .int .i64 g.w, .int .u8 (rd g.id 0), .int .u8 (rd g.id 1), .int .u8 (rd g.id 2), .int .u8 (rd g.id 3), .int .u8 (rd g.id 4), .int .u8 (rd g.id 5), .int .u8 (rd g.id 6), .int .u8 (rd g.id 7), .int .i16 g.p.1, .int .i16 g.p.2, .slice s.1 g.t.length s.2.1]), (16, .pointer (some ⟨s.2.2.1, 0, none⟩))]) (fun s w' => match s with | (A3, c3, gt, vx) => wr.heap.size < gt ∧ (g.t = [] ∨ ∀ a, A3 = some a → a.block ≠ gt) ∧ Aside0 (Below w.heap.size w w') ∧ Aside0 (Lent w' w1.heap.size gb cb two) ∧ Aside0 (RS w' w2.heap.size w4.heap.size r0 r1 w7.heap.size gb0 gb1 (vx) (lx) (ex) (vb) (lb) (eb) (la) (ea) (lb) (eb)) ∧ Aside0 (w'.heap[w4.heap.size]? = some (.cells #[.slice none 0 0, .int .i64 0, .bool false] 65 (0, 0))) ∧ Aside0 (w'.heap[w4.heap.size + 1]? = some (.cells #[.pointer (some ⟨r0, 0, none⟩), .pointer (some ⟨r1, 0, none⟩), .pointer none, .pointer (some ⟨w4.heap.size, 0, none⟩)] 55 (0, 0))) ∧ Aside0 (w'.heap[wr.heap.size]? = some (.cells #[.int .i64 t.1, .int .i64 t.kind, .int .u64 t.n, .int .i64 t.i, .int .i64 t.w, .int .u8 (rd t.id 0), .int .u8 (rd t.id 1), .int .u8 (rd t.id 2), .int .u8 (rd t.id 3), .int .u8 (rd t.id 4), .int .u8 (rd t.id 5), .int .u8 (rd t.id 6), .int .u8 (rd t.id 7), .int .i16 t.p.1, .int .i16 t.p.2, .slice A' t.t.length c'] 46 (0, 0))) ∧ Aside0 (w'.heap[gt]? = some (.cells #[.int .i64 0, .int .i64 0, .int .u64 0, .int .i64 0, .int .i64 0, .int .u8 0, .int .u8 0, .int .u8 0, .int .u8 0, .int .u8 0, .int .u8 0, .int .u8 0, .int .u8 0, .int .i16 0, .int .i16 0, .slice none 0 0] 46 (0, 0))) ∧ Aside0 (Tx w' wr.heap.size A3 c3 g.t)) ?cont (fun hJ => ?_)
        case cont =>
         rintro ⟨A3, c3, gt, vx⟩ w13 ⟨hgt, hte, HB13, HLB13, HRS13, HG313, HGR13, HGT13, HGG13, HTX13⟩
         have HTG : Aside0 (wr.heap.size < gt) := ⟨hgt⟩
         have HTE : Aside0 (g.t = [] ∨ ∀ a, A3 = some a → a.block ≠ gt) := ⟨hte⟩
         clear hgt hte hHeld HB12 HLB12 HRS12 HG312 HGR12 HGT12
         refine norm_ (a' := ?_) ?_ ?_
         rotate_left
         · simp only [putAll, Act.put, List.setIfInBounds_toArray, List.set_cons_zero, List.set_cons_succ]
           rfl
         refine one_ (i := 7) (N := none) #[true, true, true, true, true, true, true, true] rfl rfl (one_of HT_.out (by kernel_rfl)) (by decide) (fun K hK => ?_)
         refine rowstore_ (by rfl) rfl 46 (.tmp 16) (.tmp 95) rfl (gt) #[.int .i64 g.1, .int .i64 g.kind, .int .u64 g.n, .int .i64 g.i, .int .i64 g.w, .int .u8 (rd g.id 0), .int .u8 (rd g.id 1), .int .u8 (rd g.id 2), .int .u8 (rd g.id 3), .int .u8 (rd g.id 4), .int .u8 (rd g.id 5), .int .u8 (rd g.id 6), .int .u8 (rd g.id 7), .int .i16 g.p.1, .int .i16 g.p.2, .slice A3 g.t.length c3] (by rfl) (by rfl) _ _ HGG13.out infoTh rfl (by simp [Value.oneCell']) ?_
         have hs := chg_row (cs := #[.int .i64 g.1, .int .i64 g.kind, .int .u64 g.n, .int .i64 g.i, .int .i64 g.w, .int .u8 (rd g.id 0), .int .u8 (rd g.id 1), .int .u8 (rd g.id 2), .int .u8 (rd g.id 3), .int .u8 (rd g.id 4), .int .u8 (rd g.id 5), .int .u8 (rd g.id 6), .int .u8 (rd g.id 7), .int .i16 g.p.1, .int .i16 g.p.2, .slice A3 g.t.length c3]) HGG13.out
         generalize w13.setRow (gt) #[.int .i64 g.1, .int .i64 g.kind, .int .u64 g.n, .int .i64 g.i, .int .i64 g.w, .int .u8 (rd g.id 0), .int .u8 (rd g.id 1), .int .u8 (rd g.id 2), .int .u8 (rd g.id 3), .int .u8 (rd g.id 4), .int .u8 (rd g.id 5), .int .u8 (rd g.id 6), .int .u8 (rd g.id 7), .int .i16 g.p.1, .int .i16 g.p.2, .slice A3 g.t.length c3] = w14 at hs ⊢
         have HB14 : Aside0 (Below w.heap.size w w14) := ⟨HB13.out.trans (hs.2.below HB13.out.size (fun i hi => by have e : i = gt := hi; have := HNN.out; have := HTN.out; have := HTG.out; omega))⟩
         have HLB14 := Aside0.mk (lent_keep HLB13.out hs.2 (fun e => by have e' : gb = gt := e; have := HNN.out; have := HTN.out; have := HTG.out; omega))
         have HRS14 := Aside0.mk (HRS13.out.cell hs.2 (by have := HNN.out; have := HTN.out; have := HTG.out; omega) (by refine ⟨?_, ?_, ?_⟩ <;> (have := HNN.out; have := HTN.out; have := HTG.out; omega)))
         have HG314 := Aside0.mk (hs.2.heap HG313.out (fun e => by have e' : w4.heap.size = gt := e; have := HNN.out; have := HTN.out; have := HTG.out; omega))
         have HGR14 := Aside0.mk (hs.2.heap HGR13.out (fun e => by have e' : w4.heap.size + 1 = gt := e; have := HNN.out; have := HTN.out; have := HTG.out; omega))
         have HGT14 := Aside0.mk (hs.2.heap HGT13.out (fun e => by have e' : wr.heap.size = gt := e; have := HNN.out; have := HTN.out; have := HTG.out; omega))
         have HGG14 := Aside0.mk (hs.1)
         have HTX14 := Aside0.mk (HTX13.out.chg2 hs.2 HTE.out)
         clear HB13 HLB13 HRS13 HG313 HGR13 HGT13 HGG13 HTX13
         clear hs
         refine hK.out _ _ ⟨(blk_cell HGR14.out 0).trans rfl, (blk_cell HGR14.out 1).trans rfl, (blk_cell HGR14.out 2).trans rfl, (blk_cell HGR14.out 3).trans rfl, (blk_cell HGT14.out 0).trans rfl, (blk_cell HGT14.out 1).trans rfl, (blk_cell HGT14.out 2).trans rfl, (blk_cell HGT14.out 3).trans rfl, (blk_cell HGT14.out 4).trans rfl, (blk_cell HGT14.out 5).trans rfl, (blk_cell HGT14.out 6).trans rfl, (blk_cell HGT14.out 7).trans rfl, (blk_cell HGT14.out 8).trans rfl, (blk_cell HGT14.out 9).trans rfl, (blk_cell HGT14.out 10).trans rfl, (blk_cell HGT14.out 11).trans rfl, (blk_cell HGT14.out 12).trans rfl, (blk_cell HGT14.out 13).trans rfl, (blk_cell HGT14.out 14).trans rfl, (blk_cell HGT14.out 15).trans rfl⟩ (fun hHeld => ?_)
         clear hK K
         refine done_ (done_of HT_.out (by kernel_rfl)) ?_
         clear hHeld HT_ HW_
         have HGGc1 : w14.cell? ⟨gt, 1, none⟩ = some (.int .i64 g.kind) := (blk_cell HGG14.out 1).trans rfl
         have HGGc4 : w14.cell? ⟨gt, 4, none⟩ = some (.int .i64 g.w) := (blk_cell HGG14.out 4).trans rfl
         go_wp2_with fail
         clear HGGc1 HGGc4
         have hba : Below w14.heap.size w14 (w14.alloc (.cells #[.int .i64 0, .int .i64 g.kind, .int .u64 0, .int .i64 0, .int .i64 g.w, .int .u8 0, .int .u8 0, .int .u8 0, .int .u8 0, .int .u8 0, .int .u8 0, .int .u8 0, .int .u8 0, .int .i16 0, .int .i16 0, .slice none 0 0] 46)) := below_new _ _
         have HGX15 : Aside0 ((w14.alloc (.cells #[.int .i64 0, .int .i64 g.kind, .int .u64 0, .int .i64 0, .int .i64 g.w, .int .u8 0, .int .u8 0, .int .u8 0, .int .u8 0, .int .u8 0, .int .u8 0, .int .u8 0, .int .u8 0, .int .i16 0, .int .i16 0, .slice none 0 0] 46)).heap[w14.heap.size]? = some (.cells #[.int .i64 0, .int .i64 g.kind, .int .u64 0, .int .i64 0, .int .i64 g.w, .int .u8 0, .int .u8 0, .int .u8 0, .int .u8 0, .int .u8 0, .int .u8 0, .int .u8 0, .int .u8 0, .int .i16 0, .int .i16 0, .slice none 0 0] 46 (0, 0))) := ⟨blk_new _ _⟩
         have HTZ : Aside0 (gt < w14.heap.size ∧ wr.heap.size < w14.heap.size ∧ gb0 < w14.heap.size ∧ gb1 < w14.heap.size) := ⟨blk_lt HGG14.out, blk_lt HGT14.out, HRS14.out.n.2.2.2⟩
         have HTF : Aside0 (g.t = [] ∨ ∀ a, A3 = some a → a.block ≠ w14.heap.size) := ⟨by
          rcases C_lt HTX14.out.hc with e | ⟨a, e, hlt⟩
          · exact Or.inl e
          · exact Or.inr (fun b hb => by rw [e] at hb; cases hb; exact Nat.ne_of_lt hlt)⟩
         have HB15 := Aside0.mk (below_step HB14.out hba)
         have HLB15 := Aside0.mk (lent_below HLB14.out hba)
         have HRS15 := Aside0.mk (HRS14.out.below hba)
         have HG315 := Aside0.mk ((hba.block _ (blk_lt HG314.out)).trans HG314.out)
         have HGR15 := Aside0.mk ((hba.block _ (blk_lt HGR14.out)).trans HGR14.out)
         have HGT15 := Aside0.mk ((hba.block _ (blk_lt HGT14.out)).trans HGT14.out)
         have HGG15 := Aside0.mk ((hba.block _ (blk_lt HGG14.out)).trans HGG14.out)
         have HTX15 := Aside0.mk (HTX14.out.below hba)
         clear HB14 HLB14 HRS14 HG314 HGR14 HGT14 HGG14 HTX14 hba
         generalize w14.alloc (.cells #[.int .i64 0, .int .i64 g.kind, .int .u64 0, .int .i64 0, .int .i64 g.w, .int .u8 0, .int .u8 0, .int .u8 0, .int .u8 0, .int .u8 0, .int .u8 0, .int .u8 0, .int .u8 0, .int .i16 0, .int .i16 0, .slice none 0 0] 46) = w15 at HB15 HLB15 HRS15 HG315 HGR15 HGT15 HGG15 HTX15 HGX15 ⊢
         have hbd : Below w15.heap.size w15 w15.drew := below_drew1 (Below.refl _ _)
         have HB16 := Aside0.mk (below_step HB15.out hbd)
         have HLB16 := Aside0.mk (lent_below HLB15.out hbd)
         have HRS16 := Aside0.mk (HRS15.out.below hbd)
         have HG316 := Aside0.mk ((hbd.block _ (blk_lt HG315.out)).trans HG315.out)
         have HGR16 := Aside0.mk ((hbd.block _ (blk_lt HGR15.out)).trans HGR15.out)
         have HGT16 := Aside0.mk ((hbd.block _ (blk_lt HGT15.out)).trans HGT15.out)
         have HGG16 := Aside0.mk ((hbd.block _ (blk_lt HGG15.out)).trans HGG15.out)
         have HTX16 := Aside0.mk (HTX15.out.below hbd)
         have HGX16 := Aside0.mk ((hbd.block _ (blk_lt HGX15.out)).trans HGX15.out)
         clear HB15 HLB15 HRS15 HG315 HGR15 HGT15 HGG15 HTX15 HGX15 hbd
         refine start_ (n := 5) (S := fun w' => w'.cell? ⟨wr.heap.size, 0, none⟩ = some (.int .i64 t.1) ∧ w'.cell? ⟨wr.heap.size, 1, none⟩ = some (.int .i64 t.kind) ∧ w'.cell? ⟨wr.heap.size, 2, none⟩ = some (.int .u64 t.n) ∧ w'.cell? ⟨wr.heap.size, 3, none⟩ = some (.int .i64 t.i) ∧ w'.cell? ⟨wr.heap.size, 4, none⟩ = some (.int .i64 t.w) ∧ w'.cell? ⟨wr.heap.size, 5, none⟩ = some (.int .u8 (rd t.id 0)) ∧ w'.cell? ⟨wr.heap.size, 6, none⟩ = some (.int .u8 (rd t.id 1)) ∧ w'.cell? ⟨wr.heap.size, 7, none⟩ = some (.int .u8 (rd t.id 2)) ∧ w'.cell? ⟨wr.heap.size, 8, none⟩ = some (.int .u8 (rd t.id 3)) ∧ w'.cell? ⟨wr.heap.size, 9, none⟩ = some (.int .u8 (rd t.id 4)) ∧ w'.cell? ⟨wr.heap.size, 10, none⟩ = some (.int .u8 (rd t.id 5)) ∧ w'.cell? ⟨wr.heap.size, 11, none⟩ = some (.int .u8 (rd t.id 6)) ∧ w'.cell? ⟨wr.heap.size, 12, none⟩ = some (.int .u8 (rd t.id 7)) ∧ w'.cell? ⟨wr.heap.size, 13, none⟩ = some (.int .i16 t.p.1) ∧ w'.cell? ⟨wr.heap.size, 14, none⟩ = some (.int .i16 t.p.2) ∧ w'.cell? ⟨wr.heap.size, 15, none⟩ = some (.slice A' t.t.length c')) (ds := []) #[false, false, false, false, false] (by kernel_rfl) rfl rfl ⟨(blk_cell HGT16.out 0).trans rfl, (blk_cell HGT16.out 1).trans rfl, (blk_cell HGT16.out 2).trans rfl, (blk_cell HGT16.out 3).trans rfl, (blk_cell HGT16.out 4).trans rfl, (blk_cell HGT16.out 5).trans rfl, (blk_cell HGT16.out 6).trans rfl, (blk_cell HGT16.out 7).trans rfl, (blk_cell HGT16.out 8).trans rfl, (blk_cell HGT16.out 9).trans rfl, (blk_cell HGT16.out 10).trans rfl, (blk_cell HGT16.out 11).trans rfl, (blk_cell HGT16.out 12).trans rfl, (blk_cell HGT16.out 13).trans rfl, (blk_cell HGT16.out 14).trans rfl, (blk_cell HGT16.out 15).trans rfl⟩ (fun hHeld => ?_)
         refine with_tabW reads_tab24 reads_bits24 (fun HT_ HW_ => ?_)
         generalize w15.drew = w16 at HB16 HLB16 HRS16 HG316 HGR16 HGT16 HGG16 HTX16 HGX16 hHeld ⊢
         refine pure_ (i := 0) (N := some 103) (v := ?_) (a' := ?_) #[true, false, false, false, false] rfl rfl (any_of HT_.out (by kernel_rfl)) (fun _ _ _ h => h) (Or.inl ⟨by rfl, ?_⟩) ?_ ?_
         rotate_left
         · intro w'
           go_simp
           with_reducible rfl
         rotate_left
         · simp only [Act.put, List.setIfInBounds_toArray, List.set_cons_zero, List.set_cons_succ, i64_w, i32_w]
           rfl
         refine pure_ (i := 1) (N := some 104) (v := ?_) (a' := ?_) #[true, true, false, false, false] rfl rfl (any_of HT_.out (by kernel_rfl)) (fun _ _ _ h => h) (Or.inl ⟨by rfl, ?_⟩) ?_ ?_
         rotate_left
         · intro w'
           go_simp
           with_reducible rfl
         rotate_left
         · simp only [Act.put, List.setIfInBounds_toArray, List.set_cons_zero, List.set_cons_succ, i64_w, i32_w]
           rfl
         refine take_ (i := 2) (N := some 105) (v := ?_) (a' := ?_) #[true, true, true, false, false] rfl rfl (take_ofW HT_.out HW_.out (by kernel_rfl)) (fun _ _ _ h => h) (Or.inl ⟨by rfl, ?_⟩) hHeld ?_ ?_
         rotate_left
         · rintro w' ⟨s0, s1, s2, s3, s4, s5, s6, s7, s8, s9, s10, s11, s12, s13, s14, s15⟩
           go_simp
           with_reducible rfl
         rotate_left
         · simp only [Act.put, List.setIfInBounds_toArray, List.set_cons_zero, List.set_cons_succ, i64_w, i32_w]
           rfl
         refine one_ (i := 3) (N := some 106) #[true, true, true, true, false] rfl rfl (one_of HT_.out (by kernel_rfl)) (by decide) (fun K hK => ?_)
         refine goes_ Try.func35 (by kernel_rfl) rfl #[.pointer (some ⟨w7.heap.size, 0, none⟩), .agg #[.int .i64 t.1, .int .i64 t.kind, .int .u64 t.n, .int .i64 t.i, .int .i64 t.w, .int .u8 (rd t.id 0), .int .u8 (rd t.id 1), .int .u8 (rd t.id 2), .int .u8 (rd t.id 3), .int .u8 (rd t.id 4), .int .u8 (rd t.id 5), .int .u8 (rd t.id 6), .int .u8 (rd t.id 7), .int .i16 t.p.1, .int .i16 t.p.2, .slice A' t.t.length c']] (by rfl) rfl rfl (by (try simp only [List.map_toArray, List.map_cons, List.map_nil]); first | done | rfl) ?_
         obtain ⟨Am, cm, ym0, ym1, hm, hmk⟩ := HRS16.out.m0
         have hme := meant0_all w7.heap.size gb0 Am cm la ea ym0 ym1 w16 hm HRS16.out.z0 HRS16.out.n.2.2.2.1 t HTM.out A' c'
         rw [← HQ.out.1, ← HQ.out.2.1, ← HQ.out.2.2] at hme
         refine hme.mono ?_
         clear hme hm
         rintro e w17 ⟨A4, c4, rfl, hmt, hl, hC, hF⟩
         refine ⟨.agg #[.int .i64 g.1, .int .i64 g.kind, .int .u64 g.n, .int .i64 g.i, .int .i64 g.w, .int .u8 (rd g.id 0), .int .u8 (rd g.id 1), .int .u8 (rd g.id 2), .int .u8 (rd g.id 3), .int .u8 (rd g.id 4), .int .u8 (rd g.id 5), .int .u8 (rd g.id 6), .int .u8 (rd g.id 7), .int .i16 g.p.1, .int .i16 g.p.2, .slice A4 g.t.length c4], rfl, ?_⟩
         obtain ⟨hrs, hc⟩ := hmk w17 lx ex HYX.out hmt
         have HTY17 : Aside0 (Tx w17 (w14.heap.size + 1) A4 c4 g.t) := ⟨⟨hC, hl, fun a ha => Nat.le_trans (Nat.succ_le_of_lt (blk_lt HGX16.out)) (hF a ha)⟩⟩
         have HB17 : Aside0 (Below w.heap.size w w17) := ⟨HB16.out.trans (hc.below HB16.out.size (fun i hi => by have e : i = w7.heap.size := hi; have := HNN.out; have := HTN.out; have := HTG.out; have := HTZ.out; omega))⟩
         have HLB17 := Aside0.mk (lent_keep HLB16.out hc (fun e => by have e' : gb = w7.heap.size := e; have := HNN.out; have := HTN.out; have := HTG.out; have := HTZ.out; omega))
         have HRS17 := Aside0.mk (hrs)
         have HG317 := Aside0.mk (hc.heap HG316.out (fun e => by have e' : w4.heap.size = w7.heap.size := e; have := HNN.out; have := HTN.out; have := HTG.out; have := HTZ.out; omega))
         have HGR17 := Aside0.mk (hc.heap HGR16.out (fun e => by have e' : w4.heap.size + 1 = w7.heap.size := e; have := HNN.out; have := HTN.out; have := HTG.out; have := HTZ.out; omega))
         have HGT17 := Aside0.mk (hc.heap HGT16.out (fun e => by have e' : wr.heap.size = w7.heap.size := e; have := HNN.out; have := HTN.out; have := HTG.out; have := HTZ.out; omega))
         have HGG17 := Aside0.mk (hc.heap HGG16.out (fun e => by have e' : gt = w7.heap.size := e; have := HNN.out; have := HTN.out; have := HTG.out; have := HTZ.out; omega))
         have HTX17 := Aside0.mk (HTX16.out.chg hc (by have := HTN.out; omega))
         have HGX17 := Aside0.mk (hc.heap HGX16.out (fun e => by have e' : w14.heap.size = w7.heap.size := e; have := HNN.out; have := HTN.out; have := HTG.out; have := HTZ.out; omega))
         clear HB16 HLB16 HRS16 HG316 HGR16 HGT16 HGG16 HTX16 HGX16
         clear hrs hc hmt hl hC hF hmk
         refine hK.out _ _ ⟨(blk_cell HGT17.out 0).trans rfl, (blk_cell HGT17.out 1).trans rfl, (blk_cell HGT17.out 2).trans rfl, (blk_cell HGT17.out 3).trans rfl, (blk_cell HGT17.out 4).trans rfl, (blk_cell HGT17.out 5).trans rfl, (blk_cell HGT17.out 6).trans rfl, (blk_cell HGT17.out 7).trans rfl, (blk_cell HGT17.out 8).trans rfl, (blk_cell HGT17.out 9).trans rfl, (blk_cell HGT17.out 10).trans rfl, (blk_cell HGT17.out 11).trans rfl, (blk_cell HGT17.out 12).trans rfl, (blk_cell HGT17.out 13).trans rfl, (blk_cell HGT17.out 14).trans rfl, (blk_cell HGT17.out 15).trans rfl⟩ (fun hHeld => ?_)
         clear hK K
         refine norm_ (a' := ?_) ?_ ?_
         rotate_left
         · show Act.put _ (some 106) _ = _
           simp only [Act.put, List.setIfInBounds_toArray, List.set_cons_zero, List.set_cons_succ, i64_w, i32_w]
           rfl
         refine one_ (i := 4) (N := none) #[true, true, true, true, true] rfl rfl (one_of HT_.out (by kernel_rfl)) (by decide) (fun K hK => ?_)
         refine rowstore_ (by rfl) rfl 46 (.tmp 17) (.tmp 106) rfl (w14.heap.size) #[.int .i64 g.1, .int .i64 g.kind, .int .u64 g.n, .int .i64 g.i, .int .i64 g.w, .int .u8 (rd g.id 0), .int .u8 (rd g.id 1), .int .u8 (rd g.id 2), .int .u8 (rd g.id 3), .int .u8 (rd g.id 4), .int .u8 (rd g.id 5), .int .u8 (rd g.id 6), .int .u8 (rd g.id 7), .int .i16 g.p.1, .int .i16 g.p.2, .slice A4 g.t.length c4] (by rfl) (by rfl) _ _ HGX17.out infoTh rfl (by simp [Value.oneCell']) ?_
         have hs := chg_row (cs := #[.int .i64 g.1, .int .i64 g.kind, .int .u64 g.n, .int .i64 g.i, .int .i64 g.w, .int .u8 (rd g.id 0), .int .u8 (rd g.id 1), .int .u8 (rd g.id 2), .int .u8 (rd g.id 3), .int .u8 (rd g.id 4), .int .u8 (rd g.id 5), .int .u8 (rd g.id 6), .int .u8 (rd g.id 7), .int .i16 g.p.1, .int .i16 g.p.2, .slice A4 g.t.length c4]) HGX17.out
         generalize w17.setRow (w14.heap.size) #[.int .i64 g.1, .int .i64 g.kind, .int .u64 g.n, .int .i64 g.i, .int .i64 g.w, .int .u8 (rd g.id 0), .int .u8 (rd g.id 1), .int .u8 (rd g.id 2), .int .u8 (rd g.id 3), .int .u8 (rd g.id 4), .int .u8 (rd g.id 5), .int .u8 (rd g.id 6), .int .u8 (rd g.id 7), .int .i16 g.p.1, .int .i16 g.p.2, .slice A4 g.t.length c4] = w18 at hs ⊢
         have HB18 : Aside0 (Below w.heap.size w w18) := ⟨HB17.out.trans (hs.2.below HB17.out.size (fun i hi => by have e : i = w14.heap.size := hi; have := HNN.out; have := HTN.out; have := HTG.out; have := HTZ.out; omega))⟩
         have HLB18 := Aside0.mk (lent_keep HLB17.out hs.2 (fun e => by have e' : gb = w14.heap.size := e; have := HNN.out; have := HTN.out; have := HTG.out; have := HTZ.out; omega))
         have HRS18 := Aside0.mk (HRS17.out.cell hs.2 (by have := HNN.out; have := HTN.out; have := HTG.out; have := HTZ.out; omega) (by refine ⟨?_, ?_, ?_⟩ <;> (have := HNN.out; have := HTN.out; have := HTG.out; have := HTZ.out; omega)))
         have HG318 := Aside0.mk (hs.2.heap HG317.out (fun e => by have e' : w4.heap.size = w14.heap.size := e; have := HNN.out; have := HTN.out; have := HTG.out; have := HTZ.out; omega))
         have HGR18 := Aside0.mk (hs.2.heap HGR17.out (fun e => by have e' : w4.heap.size + 1 = w14.heap.size := e; have := HNN.out; have := HTN.out; have := HTG.out; have := HTZ.out; omega))
         have HGT18 := Aside0.mk (hs.2.heap HGT17.out (fun e => by have e' : wr.heap.size = w14.heap.size := e; have := HNN.out; have := HTN.out; have := HTG.out; have := HTZ.out; omega))
         have HGG18 := Aside0.mk (hs.2.heap HGG17.out (fun e => by have e' : gt = w14.heap.size := e; have := HNN.out; have := HTN.out; have := HTG.out; have := HTZ.out; omega))
         have HTX18 := Aside0.mk (HTX17.out.chg2 hs.2 HTF.out)
         have HGX18 := Aside0.mk (hs.1)
         have HTY18 := Aside0.mk (HTY17.out.chg hs.2 (by omega))
         clear HB17 HLB17 HRS17 HG317 HGR17 HGT17 HGG17 HTX17 HGX17 HTY17
         clear hs
         refine hK.out _ _ ⟨(blk_cell HGT18.out 0).trans rfl, (blk_cell HGT18.out 1).trans rfl, (blk_cell HGT18.out 2).trans rfl, (blk_cell HGT18.out 3).trans rfl, (blk_cell HGT18.out 4).trans rfl, (blk_cell HGT18.out 5).trans rfl, (blk_cell HGT18.out 6).trans rfl, (blk_cell HGT18.out 7).trans rfl, (blk_cell HGT18.out 8).trans rfl, (blk_cell HGT18.out 9).trans rfl, (blk_cell HGT18.out 10).trans rfl, (blk_cell HGT18.out 11).trans rfl, (blk_cell HGT18.out 12).trans rfl, (blk_cell HGT18.out 13).trans rfl, (blk_cell HGT18.out 14).trans rfl, (blk_cell HGT18.out 15).trans rfl⟩ (fun hHeld => ?_)
         clear hK K
         refine done_ (done_of HT_.out (by kernel_rfl)) ?_
         clear hHeld HT_ HW_
         as_aux_lemma =>
          obtain ⟨Am0, cm0, Am1, cm1, hgm, _, _⟩ := HRS18.out.M
          have hmc : w18.cell? ⟨w7.heap.size, 0, none⟩ = some (.slice Am0 lx.length cm0) := (blk_cell hgm 0).trans rfl
          clear hgm
          go_wp2_with fail
          clear hmc
          obtain ⟨_, _, _, _, hm, _⟩ := HRS18.out.m0
          refine (mend0 _ _ _ _ _ _ _ _ _ hm).mono ?_
          rintro e w19 ⟨rfl, hw_⟩
          replace hw_ := hw_.symm
          subst hw_
          clear hm
          as_aux_lemma =>
           obtain ⟨HGGc0, HGGc1, HGGc2, HGGc3, HGGc4, HGGc5, HGGc6, HGGc7, HGGc8, HGGc9, HGGc10, HGGc11, HGGc12, HGGc13, HGGc14, HGGc15⟩ := cells16 HGG18.out
           obtain ⟨HGXc0, HGXc1, HGXc2, HGXc3, HGXc4, HGXc5, HGXc6, HGXc7, HGXc8, HGXc9, HGXc10, HGXc11, HGXc12, HGXc13, HGXc14, HGXc15⟩ := cells16 HGX18.out
           go_wp2_with fail
           clear HGGc0 HGGc1 HGGc2 HGGc3 HGGc4 HGGc5 HGGc6 HGGc7 HGGc8 HGGc9 HGGc10 HGGc11 HGGc12 HGGc13 HGGc14 HGGc15
           clear HGXc0 HGXc1 HGXc2 HGXc3 HGXc4 HGXc5 HGXc6 HGXc7 HGXc8 HGXc9 HGXc10 HGXc11 HGXc12 HGXc13 HGXc14 HGXc15
           refine (alike_walk g.1 g.1 g.kind g.n g.i g.w (rd g.id 0) (rd g.id 1) (rd g.id 2) (rd g.id 3) (rd g.id 4) (rd g.id 5) (rd g.id 6) (rd g.id 7) g.p.1 g.p.2 A3 A4 g.t.length c3 c4 g.t rfl w18 HTX18.out.hc HTX18.out.le HTY18.out.hc HTY18.out.le).mono ?_
           rintro e w20 ⟨rfl, hb⟩
           have HB20 := Aside0.mk (below_step HB18.out hb)
           have HLB20 := Aside0.mk (lent_below HLB18.out hb)
           have HRS20 := Aside0.mk (HRS18.out.below hb)
           have HG320 := Aside0.mk ((hb.block _ (blk_lt HG318.out)).trans HG318.out)
           have HGR20 := Aside0.mk ((hb.block _ (blk_lt HGR18.out)).trans HGR18.out)
           have HGT20 := Aside0.mk ((hb.block _ (blk_lt HGT18.out)).trans HGT18.out)
           have HGG20 := Aside0.mk ((hb.block _ (blk_lt HGG18.out)).trans HGG18.out)
           have HTX20 := Aside0.mk (HTX18.out.below hb)
           have HGX20 := Aside0.mk ((hb.block _ (blk_lt HGX18.out)).trans HGX18.out)
           have HTY20 := Aside0.mk (HTY18.out.below hb)
           clear HB18 HLB18 HRS18 HG318 HGR18 HGT18 HGG18 HTX18 HGX18 HTY18 hb
           as_aux_lemma =>
            have HGRc0 : w20.cell? ⟨w4.heap.size + 1, 0, none⟩ = some (.pointer (some ⟨r0, 0, none⟩)) := (blk_cell HGR20.out 0).trans rfl
            go_wp2_with fail
            refine (rLeft_calls w2.heap.size r0 vx lx ex w20 HRS20.out.R0).mono ?_
            rintro e w21 ⟨rfl, hw_⟩
            replace hw_ := hw_.symm
            subst hw_
            go_wp2_with fail
            refine (rEnd_calls w2.heap.size r0 vx lx ex w20 HRS20.out.R0).mono ?_
            rintro e w22 ⟨rfl, hw_⟩
            replace hw_ := hw_.symm
            subst hw_
            go_wp2_with fail
            refine (rLeft_calls w2.heap.size r0 vx lx ex w20 HRS20.out.R0).mono ?_
            rintro e w23 ⟨rfl, hw_⟩
            replace hw_ := hw_.symm
            subst hw_
            go_wp2
            go_roundg kq
            case measure => omega
            case rel => exact ⟨j + 1, _, _, _, _, _, _, by first | rfl | simp, ⟨by have := HJ.out; omega⟩, HB20, HLB20, HRS20, HG320, HGR20⟩
        refine two_ (i := 5) (j := 6) (Ni := some 95) (Nj := some 16) #[true, true, true, true, true, true, false, false] #[true, true, true, true, true, false, true, false] rfl rfl rfl rfl (two_of HT_.out (by kernel_rfl)) (by decide) (by decide) (fun K hK => ?_) (fun K hK => ?_)
        · refine goes_ Try.func34 (by kernel_rfl) rfl #[.pointer (some ⟨r0, 0, none⟩), .agg #[.int .i64 t.1, .int .i64 t.kind, .int .u64 t.n, .int .i64 t.i, .int .i64 t.w, .int .u8 (rd t.id 0), .int .u8 (rd t.id 1), .int .u8 (rd t.id 2), .int .u8 (rd t.id 3), .int .u8 (rd t.id 4), .int .u8 (rd t.id 5), .int .u8 (rd t.id 6), .int .u8 (rd t.id 7), .int .i16 t.p.1, .int .i16 t.p.2, .slice A' t.t.length c']] (by rfl) rfl rfl (by (try simp only [List.map_toArray, List.map_cons, List.map_nil]); first | done | rfl) ?_
          have htk := took_allP w2.heap.size r0 va la HRS12.out.y0 ea w12 HRS12.out.R0 t HTM.out A' c'
          rw [← HQ.out.1, ← HQ.out.2.1, ← HQ.out.2.2] at htk
          refine htk.mono ?_
          clear htk
          rintro e w24 ⟨A3, c3, rfl, hk, hl, hC, hF⟩
          refine ⟨.agg #[.int .i64 g.1, .int .i64 g.kind, .int .u64 g.n, .int .i64 g.i, .int .i64 g.w, .int .u8 (rd g.id 0), .int .u8 (rd g.id 1), .int .u8 (rd g.id 2), .int .u8 (rd g.id 3), .int .u8 (rd g.id 4), .int .u8 (rd g.id 5), .int .u8 (rd g.id 6), .int .u8 (rd g.id 7), .int .i16 g.p.1, .int .i16 g.p.2, .slice A3 g.t.length c3], rfl, ?_⟩
          have hF' : ∀ a, A3 = some a → wr.heap.size ≤ a.block := fun a ha => Nat.le_trans (by have := blk_lt HGT12.out; omega) (hF a ha)
          obtain ⟨vx, hrs, hc⟩ := HRS12.out.took0 hk HYX.out
          have HFR : Aside0 (∀ a, A3 = some a → w12.heap.size ≤ a.block) := ⟨hF⟩
          have HB24 : Aside0 (Below w.heap.size w w24) := ⟨HB12.out.trans (hc.below HB12.out.size (fun i hi => by have e : i = r0 := hi; have := HNN.out; have := HTN.out; omega))⟩
          have HLB24 := Aside0.mk (lent_keep HLB12.out hc (fun e => by have e' : gb = r0 := e; have := HNN.out; have := HTN.out; omega))
          have HRS24 := Aside0.mk (hrs)
          have HG324 := Aside0.mk (hc.heap HG312.out (fun e => by have e' : w4.heap.size = r0 := e; have := HNN.out; have := HTN.out; omega))
          have HGR24 := Aside0.mk (hc.heap HGR12.out (fun e => by have e' : w4.heap.size + 1 = r0 := e; have := HNN.out; have := HTN.out; omega))
          have HGT24 := Aside0.mk (hc.heap HGT12.out (fun e => by have e' : wr.heap.size = r0 := e; have := HNN.out; have := HTN.out; omega))
          clear HB12 HLB12 HRS12 HG312 HGR12 HGT12
          have HTX24 : Aside0 (Tx w24 wr.heap.size A3 c3 g.t) := ⟨⟨hC, hl, hF'⟩⟩
          clear hrs hc hk hl hC hF hF'
          refine hK.out _ _ ⟨(blk_cell HGR24.out 0).trans rfl, (blk_cell HGR24.out 1).trans rfl, (blk_cell HGR24.out 2).trans rfl, (blk_cell HGR24.out 3).trans rfl, (blk_cell HGT24.out 0).trans rfl, (blk_cell HGT24.out 1).trans rfl, (blk_cell HGT24.out 2).trans rfl, (blk_cell HGT24.out 3).trans rfl, (blk_cell HGT24.out 4).trans rfl, (blk_cell HGT24.out 5).trans rfl, (blk_cell HGT24.out 6).trans rfl, (blk_cell HGT24.out 7).trans rfl, (blk_cell HGT24.out 8).trans rfl, (blk_cell HGT24.out 9).trans rfl, (blk_cell HGT24.out 10).trans rfl, (blk_cell HGT24.out 11).trans rfl, (blk_cell HGT24.out 12).trans rfl, (blk_cell HGT24.out 13).trans rfl, (blk_cell HGT24.out 14).trans rfl, (blk_cell HGT24.out 15).trans rfl⟩ (fun hHeld => ?_)
          clear hK K
          refine norm_ (a' := ?_) ?_ ?_
          rotate_left
          · show Act.put _ (some 95) _ = _
            simp only [Act.put, List.setIfInBounds_toArray, List.set_cons_zero, List.set_cons_succ, i64_w, i32_w]
            rfl
          refine one_ (i := 6) (N := some 16) #[true, true, true, true, true, true, true, false] rfl rfl (one_of HT_.out (by kernel_rfl)) (by decide) (fun K hK => ?_)
          refine value_ (v := .pointer (some ⟨w24.heap.size, 0, none⟩)) (w1 := w24.alloc (.cells #[.int .i64 0, .int .i64 0, .int .u64 0, .int .i64 0, .int .i64 0, .int .u8 0, .int .u8 0, .int .u8 0, .int .u8 0, .int .u8 0, .int .u8 0, .int .u8 0, .int .u8 0, .int .i16 0, .int .i16 0, .slice none 0 0] 46)) (by rfl) rfl ?_ ?_
          · first | (go_simp; done) | (go_simp; rfl)
          have hba : Below w24.heap.size w24 (w24.alloc (.cells #[.int .i64 0, .int .i64 0, .int .u64 0, .int .i64 0, .int .i64 0, .int .u8 0, .int .u8 0, .int .u8 0, .int .u8 0, .int .u8 0, .int .u8 0, .int .u8 0, .int .u8 0, .int .i16 0, .int .i16 0, .slice none 0 0] 46)) := below_new _ _
          have HGG25 : Aside0 ((w24.alloc (.cells #[.int .i64 0, .int .i64 0, .int .u64 0, .int .i64 0, .int .i64 0, .int .u8 0, .int .u8 0, .int .u8 0, .int .u8 0, .int .u8 0, .int .u8 0, .int .u8 0, .int .u8 0, .int .i16 0, .int .i16 0, .slice none 0 0] 46)).heap[w24.heap.size]? = some (.cells #[.int .i64 0, .int .i64 0, .int .u64 0, .int .i64 0, .int .i64 0, .int .u8 0, .int .u8 0, .int .u8 0, .int .u8 0, .int .u8 0, .int .u8 0, .int .u8 0, .int .u8 0, .int .i16 0, .int .i16 0, .slice none 0 0] 46 (0, 0))) := ⟨blk_new _ _⟩
          have HTZ : Aside0 (wr.heap.size < w24.heap.size) := ⟨blk_lt HGT24.out⟩
          have HTE : Aside0 (g.t = [] ∨ ∀ a, A3 = some a → a.block ≠ w24.heap.size) := ⟨by
           rcases C_lt HTX24.out.hc with e | ⟨a, e, hlt⟩
           · exact Or.inl e
           · exact Or.inr (fun b hb => by rw [e] at hb; cases hb; exact Nat.ne_of_lt hlt)⟩
          have HB25 := Aside0.mk (below_step HB24.out hba)
          have HLB25 := Aside0.mk (lent_below HLB24.out hba)
          have HRS25 := Aside0.mk (HRS24.out.below hba)
          have HG325 := Aside0.mk ((hba.block _ (blk_lt HG324.out)).trans HG324.out)
          have HGR25 := Aside0.mk ((hba.block _ (blk_lt HGR24.out)).trans HGR24.out)
          have HGT25 := Aside0.mk ((hba.block _ (blk_lt HGT24.out)).trans HGT24.out)
          have HTX25 := Aside0.mk (HTX24.out.below hba)
          clear HB24 HLB24 HRS24 HG324 HGR24 HGT24 HTX24 hba
          generalize w24.alloc (.cells #[.int .i64 0, .int .i64 0, .int .u64 0, .int .i64 0, .int .i64 0, .int .u8 0, .int .u8 0, .int .u8 0, .int .u8 0, .int .u8 0, .int .u8 0, .int .u8 0, .int .u8 0, .int .i16 0, .int .i16 0, .slice none 0 0] 46) = w25 at HB25 HLB25 HRS25 HG325 HGR25 HGT25 HTX25 HGG25 ⊢
          refine hK.out _ _ ⟨(blk_cell HGR25.out 0).trans rfl, (blk_cell HGR25.out 1).trans rfl, (blk_cell HGR25.out 2).trans rfl, (blk_cell HGR25.out 3).trans rfl, (blk_cell HGT25.out 0).trans rfl, (blk_cell HGT25.out 1).trans rfl, (blk_cell HGT25.out 2).trans rfl, (blk_cell HGT25.out 3).trans rfl, (blk_cell HGT25.out 4).trans rfl, (blk_cell HGT25.out 5).trans rfl, (blk_cell HGT25.out 6).trans rfl, (blk_cell HGT25.out 7).trans rfl, (blk_cell HGT25.out 8).trans rfl, (blk_cell HGT25.out 9).trans rfl, (blk_cell HGT25.out 10).trans rfl, (blk_cell HGT25.out 11).trans rfl, (blk_cell HGT25.out 12).trans rfl, (blk_cell HGT25.out 13).trans rfl, (blk_cell HGT25.out 14).trans rfl, (blk_cell HGT25.out 15).trans rfl⟩ (fun hHeld => ?_)
          clear hK K
          refine norm_ (a' := ?_) ?_ ?_
          rotate_left
          · show Act.put _ (some 16) _ = _
            simp only [Act.put, List.setIfInBounds_toArray, List.set_cons_zero, List.set_cons_succ, i64_w, i32_w]
            rfl
          exact norm_ (by first | (simp only [putAll, Act.put, List.setIfInBounds_toArray, List.set_cons_zero, List.set_cons_succ]; done) | (simp only [putAll, Act.put, List.setIfInBounds_toArray, List.set_cons_zero, List.set_cons_succ]; rfl)) (hJ (A3, c3, w24.heap.size, vx) _ ⟨HTZ.out, HTE.out, HB25, HLB25, HRS25, HG325, HGR25, HGT25, HGG25, HTX25⟩)
        · refine value_ (v := .pointer (some ⟨w12.heap.size, 0, none⟩)) (w1 := w12.alloc (.cells #[.int .i64 0, .int .i64 0, .int .u64 0, .int .i64 0, .int .i64 0, .int .u8 0, .int .u8 0, .int .u8 0, .int .u8 0, .int .u8 0, .int .u8 0, .int .u8 0, .int .u8 0, .int .i16 0, .int .i16 0, .slice none 0 0] 46)) (by rfl) rfl ?_ ?_
          · first | (go_simp; done) | (go_simp; rfl)
          have hba : Below w12.heap.size w12 (w12.alloc (.cells #[.int .i64 0, .int .i64 0, .int .u64 0, .int .i64 0, .int .i64 0, .int .u8 0, .int .u8 0, .int .u8 0, .int .u8 0, .int .u8 0, .int .u8 0, .int .u8 0, .int .u8 0, .int .i16 0, .int .i16 0, .slice none 0 0] 46)) := below_new _ _
          have HGG24 : Aside0 ((w12.alloc (.cells #[.int .i64 0, .int .i64 0, .int .u64 0, .int .i64 0, .int .i64 0, .int .u8 0, .int .u8 0, .int .u8 0, .int .u8 0, .int .u8 0, .int .u8 0, .int .u8 0, .int .u8 0, .int .i16 0, .int .i16 0, .slice none 0 0] 46)).heap[w12.heap.size]? = some (.cells #[.int .i64 0, .int .i64 0, .int .u64 0, .int .i64 0, .int .i64 0, .int .u8 0, .int .u8 0, .int .u8 0, .int .u8 0, .int .u8 0, .int .u8 0, .int .u8 0, .int .u8 0, .int .i16 0, .int .i16 0, .slice none 0 0] 46 (0, 0))) := ⟨blk_new _ _⟩
          have HTZ : Aside0 (wr.heap.size < w12.heap.size) := ⟨blk_lt HGT12.out⟩
          have HB24 := Aside0.mk (below_step HB12.out hba)
          have HLB24 := Aside0.mk (lent_below HLB12.out hba)
          have HRS24 := Aside0.mk (HRS12.out.below hba)
          have HG324 := Aside0.mk ((hba.block _ (blk_lt HG312.out)).trans HG312.out)
          have HGR24 := Aside0.mk ((hba.block _ (blk_lt HGR12.out)).trans HGR12.out)
          have HGT24 := Aside0.mk ((hba.block _ (blk_lt HGT12.out)).trans HGT12.out)
          clear HB12 HLB12 HRS12 HG312 HGR12 HGT12 hba
          generalize w12.alloc (.cells #[.int .i64 0, .int .i64 0, .int .u64 0, .int .i64 0, .int .i64 0, .int .u8 0, .int .u8 0, .int .u8 0, .int .u8 0, .int .u8 0, .int .u8 0, .int .u8 0, .int .u8 0, .int .i16 0, .int .i16 0, .slice none 0 0] 46) = w24 at HB24 HLB24 HRS24 HG324 HGR24 HGT24 HGG24 ⊢
          refine hK.out _ _ ⟨(blk_cell HGR24.out 0).trans rfl, (blk_cell HGR24.out 1).trans rfl, (blk_cell HGR24.out 2).trans rfl, (blk_cell HGR24.out 3).trans rfl, (blk_cell HGT24.out 0).trans rfl, (blk_cell HGT24.out 1).trans rfl, (blk_cell HGT24.out 2).trans rfl, (blk_cell HGT24.out 3).trans rfl, (blk_cell HGT24.out 4).trans rfl, (blk_cell HGT24.out 5).trans rfl, (blk_cell HGT24.out 6).trans rfl, (blk_cell HGT24.out 7).trans rfl, (blk_cell HGT24.out 8).trans rfl, (blk_cell HGT24.out 9).trans rfl, (blk_cell HGT24.out 10).trans rfl, (blk_cell HGT24.out 11).trans rfl, (blk_cell HGT24.out 12).trans rfl, (blk_cell HGT24.out 13).trans rfl, (blk_cell HGT24.out 14).trans rfl, (blk_cell HGT24.out 15).trans rfl⟩ (fun hHeld => ?_)
          clear hK K
          refine norm_ (a' := ?_) ?_ ?_
          rotate_left
          · show Act.put _ (some 16) _ = _
            simp only [Act.put, List.setIfInBounds_toArray, List.set_cons_zero, List.set_cons_succ, i64_w, i32_w]
            rfl
          have HTW : Aside0 (w12.heap.size < w24.heap.size) := ⟨blk_lt HGG24.out⟩
          refine one_ (i := 5) (N := some 95) #[true, true, true, true, true, true, true, false] rfl rfl (one_of HT_.out (by kernel_rfl)) (by decide) (fun K hK => ?_)
          refine goes_ Try.func34 (by kernel_rfl) rfl #[.pointer (some ⟨r0, 0, none⟩), .agg #[.int .i64 t.1, .int .i64 t.kind, .int .u64 t.n, .int .i64 t.i, .int .i64 t.w, .int .u8 (rd t.id 0), .int .u8 (rd t.id 1), .int .u8 (rd t.id 2), .int .u8 (rd t.id 3), .int .u8 (rd t.id 4), .int .u8 (rd t.id 5), .int .u8 (rd t.id 6), .int .u8 (rd t.id 7), .int .i16 t.p.1, .int .i16 t.p.2, .slice A' t.t.length c']] (by rfl) rfl rfl (by (try simp only [List.map_toArray, List.map_cons, List.map_nil]); first | done | rfl) ?_
          have htk := took_allP w2.heap.size r0 va la HRS24.out.y0 ea w24 HRS24.out.R0 t HTM.out A' c'
          rw [← HQ.out.1, ← HQ.out.2.1, ← HQ.out.2.2] at htk
          refine htk.mono ?_
          clear htk
          rintro e w25 ⟨A3, c3, rfl, hk, hl, hC, hF⟩
          refine ⟨.agg #[.int .i64 g.1, .int .i64 g.kind, .int .u64 g.n, .int .i64 g.i, .int .i64 g.w, .int .u8 (rd g.id 0), .int .u8 (rd g.id 1), .int .u8 (rd g.id 2), .int .u8 (rd g.id 3), .int .u8 (rd g.id 4), .int .u8 (rd g.id 5), .int .u8 (rd g.id 6), .int .u8 (rd g.id 7), .int .i16 g.p.1, .int .i16 g.p.2, .slice A3 g.t.length c3], rfl, ?_⟩
          have hF' : ∀ a, A3 = some a → wr.heap.size ≤ a.block := fun a ha => Nat.le_trans (by have := blk_lt HGT24.out; omega) (hF a ha)
          obtain ⟨vx, hrs, hc⟩ := HRS24.out.took0 hk HYX.out
          have HFR : Aside0 (∀ a, A3 = some a → w24.heap.size ≤ a.block) := ⟨hF⟩
          have HB25 : Aside0 (Below w.heap.size w w25) := ⟨HB24.out.trans (hc.below HB24.out.size (fun i hi => by have e : i = r0 := hi; have := HNN.out; have := HTN.out; have := HTZ.out; omega))⟩
          have HLB25 := Aside0.mk (lent_keep HLB24.out hc (fun e => by have e' : gb = r0 := e; have := HNN.out; have := HTN.out; have := HTZ.out; omega))
          have HRS25 := Aside0.mk (hrs)
          have HG325 := Aside0.mk (hc.heap HG324.out (fun e => by have e' : w4.heap.size = r0 := e; have := HNN.out; have := HTN.out; have := HTZ.out; omega))
          have HGR25 := Aside0.mk (hc.heap HGR24.out (fun e => by have e' : w4.heap.size + 1 = r0 := e; have := HNN.out; have := HTN.out; have := HTZ.out; omega))
          have HGT25 := Aside0.mk (hc.heap HGT24.out (fun e => by have e' : wr.heap.size = r0 := e; have := HNN.out; have := HTN.out; have := HTZ.out; omega))
          have HGG25 := Aside0.mk (hc.heap HGG24.out (fun e => by have e' : w12.heap.size = r0 := e; have := HNN.out; have := HTN.out; have := HTZ.out; omega))
          clear HB24 HLB24 HRS24 HG324 HGR24 HGT24 HGG24
          have HTX25 : Aside0 (Tx w25 wr.heap.size A3 c3 g.t) := ⟨⟨hC, hl, hF'⟩⟩
          clear hrs hc hk hl hC hF hF'
          refine hK.out _ _ ⟨(blk_cell HGR25.out 0).trans rfl, (blk_cell HGR25.out 1).trans rfl, (blk_cell HGR25.out 2).trans rfl, (blk_cell HGR25.out 3).trans rfl, (blk_cell HGT25.out 0).trans rfl, (blk_cell HGT25.out 1).trans rfl, (blk_cell HGT25.out 2).trans rfl, (blk_cell HGT25.out 3).trans rfl, (blk_cell HGT25.out 4).trans rfl, (blk_cell HGT25.out 5).trans rfl, (blk_cell HGT25.out 6).trans rfl, (blk_cell HGT25.out 7).trans rfl, (blk_cell HGT25.out 8).trans rfl, (blk_cell HGT25.out 9).trans rfl, (blk_cell HGT25.out 10).trans rfl, (blk_cell HGT25.out 11).trans rfl, (blk_cell HGT25.out 12).trans rfl, (blk_cell HGT25.out 13).trans rfl, (blk_cell HGT25.out 14).trans rfl, (blk_cell HGT25.out 15).trans rfl⟩ (fun hHeld => ?_)
          clear hK K
          refine norm_ (a' := ?_) ?_ ?_
          rotate_left
          · show Act.put _ (some 95) _ = _
            simp only [Act.put, List.setIfInBounds_toArray, List.set_cons_zero, List.set_cons_succ, i64_w, i32_w]
            rfl
          have HTE : Aside0 (g.t = [] ∨ ∀ a, A3 = some a → a.block ≠ w12.heap.size) := ⟨Or.inr (fun a ha => by have := HFR.out a ha; have := HTW.out; omega)⟩
          exact norm_ (by first | (simp only [putAll, Act.put, List.setIfInBounds_toArray, List.set_cons_zero, List.set_cons_succ]; done) | (simp only [putAll, Act.put, List.setIfInBounds_toArray, List.set_cons_zero, List.set_cons_succ]; rfl)) (hJ (A3, c3, w12.heap.size, vx) _ ⟨HTZ.out, HTE.out, HB25, HLB25, HRS25, HG325, HGR25, HGT25, HGG25, HTX25⟩)
     · as_aux_lemma =>
        obtain ⟨g, hg⟩ : ∃ g, g = (tookR t lb eb).1 := ⟨_, rfl⟩
        obtain ⟨lx, hlx⟩ : ∃ lx, lx = (tookR t lb eb).2.1 := ⟨_, rfl⟩
        obtain ⟨ex, hex⟩ : ∃ ex, ex = (tookR t lb eb).2.2 := ⟨_, rfl⟩
        have HQ : Aside0 (g = (tookR t lb eb).1 ∧ lx = (tookR t lb eb).2.1 ∧ ex = (tookR t lb eb).2.2) := ⟨hg, hlx, hex⟩
        have HYX : Aside0 (IsBytes lx) := ⟨by rw [hlx]; exact HRS11.out.y1.suf (suf_took t lb eb)⟩
        clear hg hlx hex
        go_wp2_with fail
        have hbd : Below w11.heap.size w11 w11.drew := below_drew1 (Below.refl _ _)
        have HB12 := Aside0.mk (below_step HB11.out hbd)
        have HLB12 := Aside0.mk (lent_below HLB11.out hbd)
        have HRS12 := Aside0.mk (HRS11.out.below hbd)
        have HG312 := Aside0.mk ((hbd.block _ (blk_lt HG311.out)).trans HG311.out)
        have HGR12 := Aside0.mk ((hbd.block _ (blk_lt HGR11.out)).trans HGR11.out)
        have HGT12 := Aside0.mk ((hbd.block _ (blk_lt HGT11.out)).trans HGT11.out)
        clear HB11 HLB11 HRS11 HG311 HGR11 HGT11 hbd
        refine start_ (n := 8) (S := fun w' => w'.cell? ⟨w4.heap.size + 1, 0, none⟩ = some (.pointer (some ⟨r0, 0, none⟩)) ∧ w'.cell? ⟨w4.heap.size + 1, 1, none⟩ = some (.pointer (some ⟨r1, 0, none⟩)) ∧ w'.cell? ⟨w4.heap.size + 1, 2, none⟩ = some (.pointer none) ∧ w'.cell? ⟨w4.heap.size + 1, 3, none⟩ = some (.pointer (some ⟨w4.heap.size, 0, none⟩)) ∧ w'.cell? ⟨wr.heap.size, 0, none⟩ = some (.int .i64 t.1) ∧ w'.cell? ⟨wr.heap.size, 1, none⟩ = some (.int .i64 t.kind) ∧ w'.cell? ⟨wr.heap.size, 2, none⟩ = some (.int .u64 t.n) ∧ w'.cell? ⟨wr.heap.size, 3, none⟩ = some (.int .i64 t.i) ∧ w'.cell? ⟨wr.heap.size, 4, none⟩ = some (.int .i64 t.w) ∧ w'.cell? ⟨wr.heap.size, 5, none⟩ = some (.int .u8 (rd t.id 0)) ∧ w'.cell? ⟨wr.heap.size, 6, none⟩ = some (.int .u8 (rd t.id 1)) ∧ w'.cell? ⟨wr.heap.size, 7, none⟩ = some (.int .u8 (rd t.id 2)) ∧ w'.cell? ⟨wr.heap.size, 8, none⟩ = some (.int .u8 (rd t.id 3)) ∧ w'.cell? ⟨wr.heap.size, 9, none⟩ = some (.int .u8 (rd t.id 4)) ∧ w'.cell? ⟨wr.heap.size, 10, none⟩ = some (.int .u8 (rd t.id 5)) ∧ w'.cell? ⟨wr.heap.size, 11, none⟩ = some (.int .u8 (rd t.id 6)) ∧ w'.cell? ⟨wr.heap.size, 12, none⟩ = some (.int .u8 (rd t.id 7)) ∧ w'.cell? ⟨wr.heap.size, 13, none⟩ = some (.int .i16 t.p.1) ∧ w'.cell? ⟨wr.heap.size, 14, none⟩ = some (.int .i16 t.p.2) ∧ w'.cell? ⟨wr.heap.size, 15, none⟩ = some (.slice A' t.t.length c')) (ds := []) #[false, false, false, false, false, false, false, false] (by kernel_rfl) rfl rfl ⟨(blk_cell HGR12.out 0).trans rfl, (blk_cell HGR12.out 1).trans rfl, (blk_cell HGR12.out 2).trans rfl, (blk_cell HGR12.out 3).trans rfl, (blk_cell HGT12.out 0).trans rfl, (blk_cell HGT12.out 1).trans rfl, (blk_cell HGT12.out 2).trans rfl, (blk_cell HGT12.out 3).trans rfl, (blk_cell HGT12.out 4).trans rfl, (blk_cell HGT12.out 5).trans rfl, (blk_cell HGT12.out 6).trans rfl, (blk_cell HGT12.out 7).trans rfl, (blk_cell HGT12.out 8).trans rfl, (blk_cell HGT12.out 9).trans rfl, (blk_cell HGT12.out 10).trans rfl, (blk_cell HGT12.out 11).trans rfl, (blk_cell HGT12.out 12).trans rfl, (blk_cell HGT12.out 13).trans rfl, (blk_cell HGT12.out 14).trans rfl, (blk_cell HGT12.out 15).trans rfl⟩ (fun hHeld => ?_)
        refine with_tabW reads_tab19 reads_bits19 (fun HT_ HW_ => ?_)
        generalize w11.drew = w12 at HB12 HLB12 HRS12 HG312 HGR12 HGT12 hHeld ⊢
        refine pure_ (i := 0) (N := some 90) (v := ?_) (a' := ?_) #[true, false, false, false, false, false, false, false] rfl rfl (any_of HT_.out (by kernel_rfl)) (fun _ _ _ h => h) (Or.inl ⟨by rfl, ?_⟩) ?_ ?_
        rotate_left
        · intro w'
          go_simp
          with_reducible rfl
        rotate_left
        · simp only [Act.put, List.setIfInBounds_toArray, List.set_cons_zero, List.set_cons_succ, i64_w, i32_w]
          rfl
        refine pure_ (i := 1) (N := some 91) (v := ?_) (a' := ?_) #[true, true, false, false, false, false, false, false] rfl rfl (any_of HT_.out (by kernel_rfl)) (fun _ _ _ h => h) (Or.inl ⟨by rfl, ?_⟩) ?_ ?_
        rotate_left
        · intro w'
          go_simp
          with_reducible rfl
        rotate_left
        · simp only [Act.put, List.setIfInBounds_toArray, List.set_cons_zero, List.set_cons_succ, i64_w, i32_w]
          rfl
        refine pure_ (i := 2) (N := some 92) (v := ?_) (a' := ?_) #[true, true, true, false, false, false, false, false] rfl rfl (any_of HT_.out (by kernel_rfl)) (fun _ _ _ h => h) (Or.inl ⟨by rfl, ?_⟩) ?_ ?_
        rotate_left
        · intro w'
          go_simp
          with_reducible rfl
        rotate_left
        · simp only [Act.put, List.setIfInBounds_toArray, List.set_cons_zero, List.set_cons_succ, i64_w, i32_w]
          rfl
        refine take_ (i := 3) (N := some 93) (v := ?_) (a' := ?_) #[true, true, true, true, false, false, false, false] rfl rfl (take_ofW HT_.out HW_.out (by kernel_rfl)) (fun _ _ _ h => h) (Or.inl ⟨by rfl, ?_⟩) hHeld ?_ ?_
        rotate_left
        · rintro w' ⟨s0, s1, s2, s3, s4, s5, s6, s7, s8, s9, s10, s11, s12, s13, s14, s15, s16, s17, s18, s19⟩
          go_simp
          with_reducible rfl
        rotate_left
        · simp only [Act.put, List.setIfInBounds_toArray, List.set_cons_zero, List.set_cons_succ, i64_w, i32_w]
          rfl
        refine take_ (i := 4) (N := some 94) (v := ?_) (a' := ?_) #[true, true, true, true, true, false, false, false] rfl rfl (take_ofW HT_.out HW_.out (by kernel_rfl)) (fun _ _ _ h => h) (Or.inl ⟨by rfl, ?_⟩) hHeld ?_ ?_
        rotate_left
        · rintro w' ⟨s0, s1, s2, s3, s4, s5, s6, s7, s8, s9, s10, s11, s12, s13, s14, s15, s16, s17, s18, s19⟩
          go_simp
          with_reducible rfl
        rotate_left
        · simp only [Act.put, List.setIfInBounds_toArray, List.set_cons_zero, List.set_cons_succ, i64_w, i32_w]
          rfl
        refine join_ (σ := Option Addr × Nat × Nat × Value) 1 #[true, true, true, true, true, true, true, false] (fun s => [(95, .agg #[.int .i64 g.1, .int .i64 g.kind, .int .u64 g.n, .int .i64 g.i, .int .i64 g.w, .int .u8 (rd g.id 0), .int .u8 (rd g.id 1), .int .u8 (rd g.id 2), .int .u8 (rd g.id 3), .int .u8 (rd g.id 4), .int .u8 (rd g.id 5), .int .u8 (rd g.id 6), .int .u8 (rd g.id 7), .int .i16 g.p.1, .int .i16 g.p.2, .slice s.1 g.t.length s.2.1]), (16, .pointer (some ⟨s.2.2.1, 0, none⟩))]) (fun s w' => match s with | (A3, c3, gt, vx) => wr.heap.size < gt ∧ (g.t = [] ∨ ∀ a, A3 = some a → a.block ≠ gt) ∧ Aside0 (Below w.heap.size w w') ∧ Aside0 (Lent w' w1.heap.size gb cb two) ∧ Aside0 (RS w' w2.heap.size w4.heap.size r0 r1 w7.heap.size gb0 gb1 (va) (la) (ea) (vx) (lx) (ex) (la) (ea) (lb) (eb)) ∧ Aside0 (w'.heap[w4.heap.size]? = some (.cells #[.slice none 0 0, .int .i64 0, .bool false] 65 (0, 0))) ∧ Aside0 (w'.heap[w4.heap.size + 1]? = some (.cells #[.pointer (some ⟨r0, 0, none⟩), .pointer (some ⟨r1, 0, none⟩), .pointer none, .pointer (some ⟨w4.heap.size, 0, none⟩)] 55 (0, 0))) ∧ Aside0 (w'.heap[wr.heap.size]? = some (.cells #[.int .i64 t.1, .int .i64 t.kind, .int .u64 t.n, .int .i64 t.i, .int .i64 t.w, .int .u8 (rd t.id 0), .int .u8 (rd t.id 1), .int .u8 (rd t.id 2), .int .u8 (rd t.id 3), .int .u8 (rd t.id 4), .int .u8 (rd t.id 5), .int .u8 (rd t.id 6), .int .u8 (rd t.id 7), .int .i16 t.p.1, .int .i16 t.p.2, .slice A' t.t.length c'] 46 (0, 0))) ∧ Aside0 (w'.heap[gt]? = some (.cells #[.int .i64 0, .int .i64 0, .int .u64 0, .int .i64 0, .int .i64 0, .int .u8 0, .int .u8 0, .int .u8 0, .int .u8 0, .int .u8 0, .int .u8 0, .int .u8 0, .int .u8 0, .int .i16 0, .int .i16 0, .slice none 0 0] 46 (0, 0))) ∧ Aside0 (Tx w' wr.heap.size A3 c3 g.t)) ?cont (fun hJ => ?_)
        case cont =>
         rintro ⟨A3, c3, gt, vx⟩ w13 ⟨hgt, hte, HB13, HLB13, HRS13, HG313, HGR13, HGT13, HGG13, HTX13⟩
         have HTG : Aside0 (wr.heap.size < gt) := ⟨hgt⟩
         have HTE : Aside0 (g.t = [] ∨ ∀ a, A3 = some a → a.block ≠ gt) := ⟨hte⟩
         clear hgt hte hHeld HB12 HLB12 HRS12 HG312 HGR12 HGT12
         refine norm_ (a' := ?_) ?_ ?_
         rotate_left
         · simp only [putAll, Act.put, List.setIfInBounds_toArray, List.set_cons_zero, List.set_cons_succ]
           rfl
         refine one_ (i := 7) (N := none) #[true, true, true, true, true, true, true, true] rfl rfl (one_of HT_.out (by kernel_rfl)) (by decide) (fun K hK => ?_)
         refine rowstore_ (by rfl) rfl 46 (.tmp 16) (.tmp 95) rfl (gt) #[.int .i64 g.1, .int .i64 g.kind, .int .u64 g.n, .int .i64 g.i, .int .i64 g.w, .int .u8 (rd g.id 0), .int .u8 (rd g.id 1), .int .u8 (rd g.id 2), .int .u8 (rd g.id 3), .int .u8 (rd g.id 4), .int .u8 (rd g.id 5), .int .u8 (rd g.id 6), .int .u8 (rd g.id 7), .int .i16 g.p.1, .int .i16 g.p.2, .slice A3 g.t.length c3] (by rfl) (by rfl) _ _ HGG13.out infoTh rfl (by simp [Value.oneCell']) ?_
         have hs := chg_row (cs := #[.int .i64 g.1, .int .i64 g.kind, .int .u64 g.n, .int .i64 g.i, .int .i64 g.w, .int .u8 (rd g.id 0), .int .u8 (rd g.id 1), .int .u8 (rd g.id 2), .int .u8 (rd g.id 3), .int .u8 (rd g.id 4), .int .u8 (rd g.id 5), .int .u8 (rd g.id 6), .int .u8 (rd g.id 7), .int .i16 g.p.1, .int .i16 g.p.2, .slice A3 g.t.length c3]) HGG13.out
         generalize w13.setRow (gt) #[.int .i64 g.1, .int .i64 g.kind, .int .u64 g.n, .int .i64 g.i, .int .i64 g.w, .int .u8 (rd g.id 0), .int .u8 (rd g.id 1), .int .u8 (rd g.id 2), .int .u8 (rd g.id 3), .int .u8 (rd g.id 4), .int .u8 (rd g.id 5), .int .u8 (rd g.id 6), .int .u8 (rd g.id 7), .int .i16 g.p.1, .int .i16 g.p.2, .slice A3 g.t.length c3] = w14 at hs ⊢
         have HB14 : Aside0 (Below w.heap.size w w14) := ⟨HB13.out.trans (hs.2.below HB13.out.size (fun i hi => by have e : i = gt := hi; have := HNN.out; have := HTN.out; have := HTG.out; omega))⟩
         have HLB14 := Aside0.mk (lent_keep HLB13.out hs.2 (fun e => by have e' : gb = gt := e; have := HNN.out; have := HTN.out; have := HTG.out; omega))
         have HRS14 := Aside0.mk (HRS13.out.cell hs.2 (by have := HNN.out; have := HTN.out; have := HTG.out; omega) (by refine ⟨?_, ?_, ?_⟩ <;> (have := HNN.out; have := HTN.out; have := HTG.out; omega)))
         have HG314 := Aside0.mk (hs.2.heap HG313.out (fun e => by have e' : w4.heap.size = gt := e; have := HNN.out; have := HTN.out; have := HTG.out; omega))
         have HGR14 := Aside0.mk (hs.2.heap HGR13.out (fun e => by have e' : w4.heap.size + 1 = gt := e; have := HNN.out; have := HTN.out; have := HTG.out; omega))
         have HGT14 := Aside0.mk (hs.2.heap HGT13.out (fun e => by have e' : wr.heap.size = gt := e; have := HNN.out; have := HTN.out; have := HTG.out; omega))
         have HGG14 := Aside0.mk (hs.1)
         have HTX14 := Aside0.mk (HTX13.out.chg2 hs.2 HTE.out)
         clear HB13 HLB13 HRS13 HG313 HGR13 HGT13 HGG13 HTX13
         clear hs
         refine hK.out _ _ ⟨(blk_cell HGR14.out 0).trans rfl, (blk_cell HGR14.out 1).trans rfl, (blk_cell HGR14.out 2).trans rfl, (blk_cell HGR14.out 3).trans rfl, (blk_cell HGT14.out 0).trans rfl, (blk_cell HGT14.out 1).trans rfl, (blk_cell HGT14.out 2).trans rfl, (blk_cell HGT14.out 3).trans rfl, (blk_cell HGT14.out 4).trans rfl, (blk_cell HGT14.out 5).trans rfl, (blk_cell HGT14.out 6).trans rfl, (blk_cell HGT14.out 7).trans rfl, (blk_cell HGT14.out 8).trans rfl, (blk_cell HGT14.out 9).trans rfl, (blk_cell HGT14.out 10).trans rfl, (blk_cell HGT14.out 11).trans rfl, (blk_cell HGT14.out 12).trans rfl, (blk_cell HGT14.out 13).trans rfl, (blk_cell HGT14.out 14).trans rfl, (blk_cell HGT14.out 15).trans rfl⟩ (fun hHeld => ?_)
         clear hK K
         refine done_ (done_of HT_.out (by kernel_rfl)) ?_
         clear hHeld HT_ HW_
         have HGGc1 : w14.cell? ⟨gt, 1, none⟩ = some (.int .i64 g.kind) := (blk_cell HGG14.out 1).trans rfl
         have HGGc4 : w14.cell? ⟨gt, 4, none⟩ = some (.int .i64 g.w) := (blk_cell HGG14.out 4).trans rfl
         go_wp2_with fail
         clear HGGc1 HGGc4
         have hba : Below w14.heap.size w14 (w14.alloc (.cells #[.int .i64 0, .int .i64 g.kind, .int .u64 0, .int .i64 0, .int .i64 g.w, .int .u8 0, .int .u8 0, .int .u8 0, .int .u8 0, .int .u8 0, .int .u8 0, .int .u8 0, .int .u8 0, .int .i16 0, .int .i16 0, .slice none 0 0] 46)) := below_new _ _
         have HGX15 : Aside0 ((w14.alloc (.cells #[.int .i64 0, .int .i64 g.kind, .int .u64 0, .int .i64 0, .int .i64 g.w, .int .u8 0, .int .u8 0, .int .u8 0, .int .u8 0, .int .u8 0, .int .u8 0, .int .u8 0, .int .u8 0, .int .i16 0, .int .i16 0, .slice none 0 0] 46)).heap[w14.heap.size]? = some (.cells #[.int .i64 0, .int .i64 g.kind, .int .u64 0, .int .i64 0, .int .i64 g.w, .int .u8 0, .int .u8 0, .int .u8 0, .int .u8 0, .int .u8 0, .int .u8 0, .int .u8 0, .int .u8 0, .int .i16 0, .int .i16 0, .slice none 0 0] 46 (0, 0))) := ⟨blk_new _ _⟩
         have HTZ : Aside0 (gt < w14.heap.size ∧ wr.heap.size < w14.heap.size ∧ gb0 < w14.heap.size ∧ gb1 < w14.heap.size) := ⟨blk_lt HGG14.out, blk_lt HGT14.out, HRS14.out.n.2.2.2⟩
         have HTF : Aside0 (g.t = [] ∨ ∀ a, A3 = some a → a.block ≠ w14.heap.size) := ⟨by
          rcases C_lt HTX14.out.hc with e | ⟨a, e, hlt⟩
          · exact Or.inl e
          · exact Or.inr (fun b hb => by rw [e] at hb; cases hb; exact Nat.ne_of_lt hlt)⟩
         have HB15 := Aside0.mk (below_step HB14.out hba)
         have HLB15 := Aside0.mk (lent_below HLB14.out hba)
         have HRS15 := Aside0.mk (HRS14.out.below hba)
         have HG315 := Aside0.mk ((hba.block _ (blk_lt HG314.out)).trans HG314.out)
         have HGR15 := Aside0.mk ((hba.block _ (blk_lt HGR14.out)).trans HGR14.out)
         have HGT15 := Aside0.mk ((hba.block _ (blk_lt HGT14.out)).trans HGT14.out)
         have HGG15 := Aside0.mk ((hba.block _ (blk_lt HGG14.out)).trans HGG14.out)
         have HTX15 := Aside0.mk (HTX14.out.below hba)
         clear HB14 HLB14 HRS14 HG314 HGR14 HGT14 HGG14 HTX14 hba
         generalize w14.alloc (.cells #[.int .i64 0, .int .i64 g.kind, .int .u64 0, .int .i64 0, .int .i64 g.w, .int .u8 0, .int .u8 0, .int .u8 0, .int .u8 0, .int .u8 0, .int .u8 0, .int .u8 0, .int .u8 0, .int .i16 0, .int .i16 0, .slice none 0 0] 46) = w15 at HB15 HLB15 HRS15 HG315 HGR15 HGT15 HGG15 HTX15 HGX15 ⊢
         have hbd : Below w15.heap.size w15 w15.drew := below_drew1 (Below.refl _ _)
         have HB16 := Aside0.mk (below_step HB15.out hbd)
         have HLB16 := Aside0.mk (lent_below HLB15.out hbd)
         have HRS16 := Aside0.mk (HRS15.out.below hbd)
         have HG316 := Aside0.mk ((hbd.block _ (blk_lt HG315.out)).trans HG315.out)
         have HGR16 := Aside0.mk ((hbd.block _ (blk_lt HGR15.out)).trans HGR15.out)
         have HGT16 := Aside0.mk ((hbd.block _ (blk_lt HGT15.out)).trans HGT15.out)
         have HGG16 := Aside0.mk ((hbd.block _ (blk_lt HGG15.out)).trans HGG15.out)
         have HTX16 := Aside0.mk (HTX15.out.below hbd)
         have HGX16 := Aside0.mk ((hbd.block _ (blk_lt HGX15.out)).trans HGX15.out)
         clear HB15 HLB15 HRS15 HG315 HGR15 HGT15 HGG15 HTX15 HGX15 hbd
         refine start_ (n := 5) (S := fun w' => w'.cell? ⟨wr.heap.size, 0, none⟩ = some (.int .i64 t.1) ∧ w'.cell? ⟨wr.heap.size, 1, none⟩ = some (.int .i64 t.kind) ∧ w'.cell? ⟨wr.heap.size, 2, none⟩ = some (.int .u64 t.n) ∧ w'.cell? ⟨wr.heap.size, 3, none⟩ = some (.int .i64 t.i) ∧ w'.cell? ⟨wr.heap.size, 4, none⟩ = some (.int .i64 t.w) ∧ w'.cell? ⟨wr.heap.size, 5, none⟩ = some (.int .u8 (rd t.id 0)) ∧ w'.cell? ⟨wr.heap.size, 6, none⟩ = some (.int .u8 (rd t.id 1)) ∧ w'.cell? ⟨wr.heap.size, 7, none⟩ = some (.int .u8 (rd t.id 2)) ∧ w'.cell? ⟨wr.heap.size, 8, none⟩ = some (.int .u8 (rd t.id 3)) ∧ w'.cell? ⟨wr.heap.size, 9, none⟩ = some (.int .u8 (rd t.id 4)) ∧ w'.cell? ⟨wr.heap.size, 10, none⟩ = some (.int .u8 (rd t.id 5)) ∧ w'.cell? ⟨wr.heap.size, 11, none⟩ = some (.int .u8 (rd t.id 6)) ∧ w'.cell? ⟨wr.heap.size, 12, none⟩ = some (.int .u8 (rd t.id 7)) ∧ w'.cell? ⟨wr.heap.size, 13, none⟩ = some (.int .i16 t.p.1) ∧ w'.cell? ⟨wr.heap.size, 14, none⟩ = some (.int .i16 t.p.2) ∧ w'.cell? ⟨wr.heap.size, 15, none⟩ = some (.slice A' t.t.length c')) (ds := []) #[false, false, false, false, false] (by kernel_rfl) rfl rfl ⟨(blk_cell HGT16.out 0).trans rfl, (blk_cell HGT16.out 1).trans rfl, (blk_cell HGT16.out 2).trans rfl, (blk_cell HGT16.out 3).trans rfl, (blk_cell HGT16.out 4).trans rfl, (blk_cell HGT16.out 5).trans rfl, (blk_cell HGT16.out 6).trans rfl, (blk_cell HGT16.out 7).trans rfl, (blk_cell HGT16.out 8).trans rfl, (blk_cell HGT16.out 9).trans rfl, (blk_cell HGT16.out 10).trans rfl, (blk_cell HGT16.out 11).trans rfl, (blk_cell HGT16.out 12).trans rfl, (blk_cell HGT16.out 13).trans rfl, (blk_cell HGT16.out 14).trans rfl, (blk_cell HGT16.out 15).trans rfl⟩ (fun hHeld => ?_)
         refine with_tabW reads_tab24 reads_bits24 (fun HT_ HW_ => ?_)
         generalize w15.drew = w16 at HB16 HLB16 HRS16 HG316 HGR16 HGT16 HGG16 HTX16 HGX16 hHeld ⊢
         refine pure_ (i := 0) (N := some 103) (v := ?_) (a' := ?_) #[true, false, false, false, false] rfl rfl (any_of HT_.out (by kernel_rfl)) (fun _ _ _ h => h) (Or.inl ⟨by rfl, ?_⟩) ?_ ?_
         rotate_left
         · intro w'
           go_simp
           with_reducible rfl
         rotate_left
         · simp only [Act.put, List.setIfInBounds_toArray, List.set_cons_zero, List.set_cons_succ, i64_w, i32_w]
           rfl
         refine pure_ (i := 1) (N := some 104) (v := ?_) (a' := ?_) #[true, true, false, false, false] rfl rfl (any_of HT_.out (by kernel_rfl)) (fun _ _ _ h => h) (Or.inl ⟨by rfl, ?_⟩) ?_ ?_
         rotate_left
         · intro w'
           go_simp
           with_reducible rfl
         rotate_left
         · simp only [Act.put, List.setIfInBounds_toArray, List.set_cons_zero, List.set_cons_succ, i64_w, i32_w]
           rfl
         refine take_ (i := 2) (N := some 105) (v := ?_) (a' := ?_) #[true, true, true, false, false] rfl rfl (take_ofW HT_.out HW_.out (by kernel_rfl)) (fun _ _ _ h => h) (Or.inl ⟨by rfl, ?_⟩) hHeld ?_ ?_
         rotate_left
         · rintro w' ⟨s0, s1, s2, s3, s4, s5, s6, s7, s8, s9, s10, s11, s12, s13, s14, s15⟩
           go_simp
           with_reducible rfl
         rotate_left
         · simp only [Act.put, List.setIfInBounds_toArray, List.set_cons_zero, List.set_cons_succ, i64_w, i32_w]
           rfl
         refine one_ (i := 3) (N := some 106) #[true, true, true, true, false] rfl rfl (one_of HT_.out (by kernel_rfl)) (by decide) (fun K hK => ?_)
         refine goes_ Try.func35 (by kernel_rfl) rfl #[.pointer (some ⟨w7.heap.size, 2, none⟩), .agg #[.int .i64 t.1, .int .i64 t.kind, .int .u64 t.n, .int .i64 t.i, .int .i64 t.w, .int .u8 (rd t.id 0), .int .u8 (rd t.id 1), .int .u8 (rd t.id 2), .int .u8 (rd t.id 3), .int .u8 (rd t.id 4), .int .u8 (rd t.id 5), .int .u8 (rd t.id 6), .int .u8 (rd t.id 7), .int .i16 t.p.1, .int .i16 t.p.2, .slice A' t.t.length c']] (by rfl) rfl rfl (by (try simp only [List.map_toArray, List.map_cons, List.map_nil]); first | done | rfl) ?_
         obtain ⟨Am, cm, ym0, ym1, hm, hmk⟩ := HRS16.out.m1
         have hme := meant1_all w7.heap.size gb1 Am cm lb eb ym0 ym1 w16 hm HRS16.out.z1 HRS16.out.n.2.2.2.2 t HTM.out A' c'
         rw [← HQ.out.1, ← HQ.out.2.1, ← HQ.out.2.2] at hme
         refine hme.mono ?_
         clear hme hm
         rintro e w17 ⟨A4, c4, rfl, hmt, hl, hC, hF⟩
         refine ⟨.agg #[.int .i64 g.1, .int .i64 g.kind, .int .u64 g.n, .int .i64 g.i, .int .i64 g.w, .int .u8 (rd g.id 0), .int .u8 (rd g.id 1), .int .u8 (rd g.id 2), .int .u8 (rd g.id 3), .int .u8 (rd g.id 4), .int .u8 (rd g.id 5), .int .u8 (rd g.id 6), .int .u8 (rd g.id 7), .int .i16 g.p.1, .int .i16 g.p.2, .slice A4 g.t.length c4], rfl, ?_⟩
         obtain ⟨hrs, hc⟩ := hmk w17 lx ex HYX.out hmt
         have HTY17 : Aside0 (Tx w17 (w14.heap.size + 1) A4 c4 g.t) := ⟨⟨hC, hl, fun a ha => Nat.le_trans (Nat.succ_le_of_lt (blk_lt HGX16.out)) (hF a ha)⟩⟩
         have HB17 : Aside0 (Below w.heap.size w w17) := ⟨HB16.out.trans (hc.below HB16.out.size (fun i hi => by have e : i = w7.heap.size := hi; have := HNN.out; have := HTN.out; have := HTG.out; have := HTZ.out; omega))⟩
         have HLB17 := Aside0.mk (lent_keep HLB16.out hc (fun e => by have e' : gb = w7.heap.size := e; have := HNN.out; have := HTN.out; have := HTG.out; have := HTZ.out; omega))
         have HRS17 := Aside0.mk (hrs)
         have HG317 := Aside0.mk (hc.heap HG316.out (fun e => by have e' : w4.heap.size = w7.heap.size := e; have := HNN.out; have := HTN.out; have := HTG.out; have := HTZ.out; omega))
         have HGR17 := Aside0.mk (hc.heap HGR16.out (fun e => by have e' : w4.heap.size + 1 = w7.heap.size := e; have := HNN.out; have := HTN.out; have := HTG.out; have := HTZ.out; omega))
         have HGT17 := Aside0.mk (hc.heap HGT16.out (fun e => by have e' : wr.heap.size = w7.heap.size := e; have := HNN.out; have := HTN.out; have := HTG.out; have := HTZ.out; omega))
         have HGG17 := Aside0.mk (hc.heap HGG16.out (fun e => by have e' : gt = w7.heap.size := e; have := HNN.out; have := HTN.out; have := HTG.out; have := HTZ.out; omega))
         have HTX17 := Aside0.mk (HTX16.out.chg hc (by have := HTN.out; omega))
         have HGX17 := Aside0.mk (hc.heap HGX16.out (fun e => by have e' : w14.heap.size = w7.heap.size := e; have := HNN.out; have := HTN.out; have := HTG.out; have := HTZ.out; omega))
         clear HB16 HLB16 HRS16 HG316 HGR16 HGT16 HGG16 HTX16 HGX16
         clear hrs hc hmt hl hC hF hmk
         refine hK.out _ _ ⟨(blk_cell HGT17.out 0).trans rfl, (blk_cell HGT17.out 1).trans rfl, (blk_cell HGT17.out 2).trans rfl, (blk_cell HGT17.out 3).trans rfl, (blk_cell HGT17.out 4).trans rfl, (blk_cell HGT17.out 5).trans rfl, (blk_cell HGT17.out 6).trans rfl, (blk_cell HGT17.out 7).trans rfl, (blk_cell HGT17.out 8).trans rfl, (blk_cell HGT17.out 9).trans rfl, (blk_cell HGT17.out 10).trans rfl, (blk_cell HGT17.out 11).trans rfl, (blk_cell HGT17.out 12).trans rfl, (blk_cell HGT17.out 13).trans rfl, (blk_cell HGT17.out 14).trans rfl, (blk_cell HGT17.out 15).trans rfl⟩ (fun hHeld => ?_)
         clear hK K
         refine norm_ (a' := ?_) ?_ ?_
         rotate_left
         · show Act.put _ (some 106) _ = _
           simp only [Act.put, List.setIfInBounds_toArray, List.set_cons_zero, List.set_cons_succ, i64_w, i32_w]
           rfl
         refine one_ (i := 4) (N := none) #[true, true, true, true, true] rfl rfl (one_of HT_.out (by kernel_rfl)) (by decide) (fun K hK => ?_)
         refine rowstore_ (by rfl) rfl 46 (.tmp 17) (.tmp 106) rfl (w14.heap.size) #[.int .i64 g.1, .int .i64 g.kind, .int .u64 g.n, .int .i64 g.i, .int .i64 g.w, .int .u8 (rd g.id 0), .int .u8 (rd g.id 1), .int .u8 (rd g.id 2), .int .u8 (rd g.id 3), .int .u8 (rd g.id 4), .int .u8 (rd g.id 5), .int .u8 (rd g.id 6), .int .u8 (rd g.id 7), .int .i16 g.p.1, .int .i16 g.p.2, .slice A4 g.t.length c4] (by rfl) (by rfl) _ _ HGX17.out infoTh rfl (by simp [Value.oneCell']) ?_
         have hs := chg_row (cs := #[.int .i64 g.1, .int .i64 g.kind, .int .u64 g.n, .int .i64 g.i, .int .i64 g.w, .int .u8 (rd g.id 0), .int .u8 (rd g.id 1), .int .u8 (rd g.id 2), .int .u8 (rd g.id 3), .int .u8 (rd g.id 4), .int .u8 (rd g.id 5), .int .u8 (rd g.id 6), .int .u8 (rd g.id 7), .int .i16 g.p.1, .int .i16 g.p.2, .slice A4 g.t.length c4]) HGX17.out
         generalize w17.setRow (w14.heap.size) #[.int .i64 g.1, .int .i64 g.kind, .int .u64 g.n, .int .i64 g.i, .int .i64 g.w, .int .u8 (rd g.id 0), .int .u8 (rd g.id 1), .int .u8 (rd g.id 2), .int .u8 (rd g.id 3), .int .u8 (rd g.id 4), .int .u8 (rd g.id 5), .int .u8 (rd g.id 6), .int .u8 (rd g.id 7), .int .i16 g.p.1, .int .i16 g.p.2, .slice A4 g.t.length c4] = w18 at hs ⊢
         have HB18 : Aside0 (Below w.heap.size w w18) := ⟨HB17.out.trans (hs.2.below HB17.out.size (fun i hi => by have e : i = w14.heap.size := hi; have := HNN.out; have := HTN.out; have := HTG.out; have := HTZ.out; omega))⟩
         have HLB18 := Aside0.mk (lent_keep HLB17.out hs.2 (fun e => by have e' : gb = w14.heap.size := e; have := HNN.out; have := HTN.out; have := HTG.out; have := HTZ.out; omega))
         have HRS18 := Aside0.mk (HRS17.out.cell hs.2 (by have := HNN.out; have := HTN.out; have := HTG.out; have := HTZ.out; omega) (by refine ⟨?_, ?_, ?_⟩ <;> (have := HNN.out; have := HTN.out; have := HTG.out; have := HTZ.out; omega)))
         have HG318 := Aside0.mk (hs.2.heap HG317.out (fun e => by have e' : w4.heap.size = w14.heap.size := e; have := HNN.out; have := HTN.out; have := HTG.out; have := HTZ.out; omega))
         have HGR18 := Aside0.mk (hs.2.heap HGR17.out (fun e => by have e' : w4.heap.size + 1 = w14.heap.size := e; have := HNN.out; have := HTN.out; have := HTG.out; have := HTZ.out; omega))
         have HGT18 := Aside0.mk (hs.2.heap HGT17.out (fun e => by have e' : wr.heap.size = w14.heap.size := e; have := HNN.out; have := HTN.out; have := HTG.out; have := HTZ.out; omega))
         have HGG18 := Aside0.mk (hs.2.heap HGG17.out (fun e => by have e' : gt = w14.heap.size := e; have := HNN.out; have := HTN.out; have := HTG.out; have := HTZ.out; omega))
         have HTX18 := Aside0.mk (HTX17.out.chg2 hs.2 HTF.out)
         have HGX18 := Aside0.mk (hs.1)
         have HTY18 := Aside0.mk (HTY17.out.chg hs.2 (by omega))
         clear HB17 HLB17 HRS17 HG317 HGR17 HGT17 HGG17 HTX17 HGX17 HTY17
         clear hs
         refine hK.out _ _ ⟨(blk_cell HGT18.out 0).trans rfl, (blk_cell HGT18.out 1).trans rfl, (blk_cell HGT18.out 2).trans rfl, (blk_cell HGT18.out 3).trans rfl, (blk_cell HGT18.out 4).trans rfl, (blk_cell HGT18.out 5).trans rfl, (blk_cell HGT18.out 6).trans rfl, (blk_cell HGT18.out 7).trans rfl, (blk_cell HGT18.out 8).trans rfl, (blk_cell HGT18.out 9).trans rfl, (blk_cell HGT18.out 10).trans rfl, (blk_cell HGT18.out 11).trans rfl, (blk_cell HGT18.out 12).trans rfl, (blk_cell HGT18.out 13).trans rfl, (blk_cell HGT18.out 14).trans rfl, (blk_cell HGT18.out 15).trans rfl⟩ (fun hHeld => ?_)
         clear hK K
         refine done_ (done_of HT_.out (by kernel_rfl)) ?_
         clear hHeld HT_ HW_
         as_aux_lemma =>
          obtain ⟨Am0, cm0, Am1, cm1, hgm, _, _⟩ := HRS18.out.M
          have hmc : w18.cell? ⟨w7.heap.size, 2, none⟩ = some (.slice Am1 lx.length cm1) := (blk_cell hgm 2).trans rfl
          clear hgm
          go_wp2_with fail
          clear hmc
          obtain ⟨_, _, _, _, hm, _⟩ := HRS18.out.m1
          refine (mend1 _ _ _ _ _ _ _ _ _ hm).mono ?_
          rintro e w19 ⟨rfl, hw_⟩
          replace hw_ := hw_.symm
          subst hw_
          clear hm
          as_aux_lemma =>
           obtain ⟨HGGc0, HGGc1, HGGc2, HGGc3, HGGc4, HGGc5, HGGc6, HGGc7, HGGc8, HGGc9, HGGc10, HGGc11, HGGc12, HGGc13, HGGc14, HGGc15⟩ := cells16 HGG18.out
           obtain ⟨HGXc0, HGXc1, HGXc2, HGXc3, HGXc4, HGXc5, HGXc6, HGXc7, HGXc8, HGXc9, HGXc10, HGXc11, HGXc12, HGXc13, HGXc14, HGXc15⟩ := cells16 HGX18.out
           go_wp2_with fail
           clear HGGc0 HGGc1 HGGc2 HGGc3 HGGc4 HGGc5 HGGc6 HGGc7 HGGc8 HGGc9 HGGc10 HGGc11 HGGc12 HGGc13 HGGc14 HGGc15
           clear HGXc0 HGXc1 HGXc2 HGXc3 HGXc4 HGXc5 HGXc6 HGXc7 HGXc8 HGXc9 HGXc10 HGXc11 HGXc12 HGXc13 HGXc14 HGXc15
           refine (alike_walk g.1 g.1 g.kind g.n g.i g.w (rd g.id 0) (rd g.id 1) (rd g.id 2) (rd g.id 3) (rd g.id 4) (rd g.id 5) (rd g.id 6) (rd g.id 7) g.p.1 g.p.2 A3 A4 g.t.length c3 c4 g.t rfl w18 HTX18.out.hc HTX18.out.le HTY18.out.hc HTY18.out.le).mono ?_
           rintro e w20 ⟨rfl, hb⟩
           have HB20 := Aside0.mk (below_step HB18.out hb)
           have HLB20 := Aside0.mk (lent_below HLB18.out hb)
           have HRS20 := Aside0.mk (HRS18.out.below hb)
           have HG320 := Aside0.mk ((hb.block _ (blk_lt HG318.out)).trans HG318.out)
           have HGR20 := Aside0.mk ((hb.block _ (blk_lt HGR18.out)).trans HGR18.out)
           have HGT20 := Aside0.mk ((hb.block _ (blk_lt HGT18.out)).trans HGT18.out)
           have HGG20 := Aside0.mk ((hb.block _ (blk_lt HGG18.out)).trans HGG18.out)
           have HTX20 := Aside0.mk (HTX18.out.below hb)
           have HGX20 := Aside0.mk ((hb.block _ (blk_lt HGX18.out)).trans HGX18.out)
           have HTY20 := Aside0.mk (HTY18.out.below hb)
           clear HB18 HLB18 HRS18 HG318 HGR18 HGT18 HGG18 HTX18 HGX18 HTY18 hb
           as_aux_lemma =>
            have HGRc1 : w20.cell? ⟨w4.heap.size + 1, 1, none⟩ = some (.pointer (some ⟨r1, 0, none⟩)) := (blk_cell HGR20.out 1).trans rfl
            go_wp2_with fail
            refine (rLeft_calls w2.heap.size r1 vx lx ex w20 HRS20.out.R1).mono ?_
            rintro e w21 ⟨rfl, hw_⟩
            replace hw_ := hw_.symm
            subst hw_
            go_wp2_with fail
            refine (rEnd_calls w2.heap.size r1 vx lx ex w20 HRS20.out.R1).mono ?_
            rintro e w22 ⟨rfl, hw_⟩
            replace hw_ := hw_.symm
            subst hw_
            go_wp2_with fail
            refine (rLeft_calls w2.heap.size r1 vx lx ex w20 HRS20.out.R1).mono ?_
            rintro e w23 ⟨rfl, hw_⟩
            replace hw_ := hw_.symm
            subst hw_
            go_wp2
            go_roundg kq
            case measure => omega
            case rel => exact ⟨j + 1, _, _, _, _, _, _, by first | rfl | simp, ⟨by have := HJ.out; omega⟩, HB20, HLB20, HRS20, HG320, HGR20⟩
        refine two_ (i := 5) (j := 6) (Ni := some 95) (Nj := some 16) #[true, true, true, true, true, true, false, false] #[true, true, true, true, true, false, true, false] rfl rfl rfl rfl (two_of HT_.out (by kernel_rfl)) (by decide) (by decide) (fun K hK => ?_) (fun K hK => ?_)
        · refine goes_ Try.func34 (by kernel_rfl) rfl #[.pointer (some ⟨r1, 0, none⟩), .agg #[.int .i64 t.1, .int .i64 t.kind, .int .u64 t.n, .int .i64 t.i, .int .i64 t.w, .int .u8 (rd t.id 0), .int .u8 (rd t.id 1), .int .u8 (rd t.id 2), .int .u8 (rd t.id 3), .int .u8 (rd t.id 4), .int .u8 (rd t.id 5), .int .u8 (rd t.id 6), .int .u8 (rd t.id 7), .int .i16 t.p.1, .int .i16 t.p.2, .slice A' t.t.length c']] (by rfl) rfl rfl (by (try simp only [List.map_toArray, List.map_cons, List.map_nil]); first | done | rfl) ?_
          have htk := took_allP w2.heap.size r1 vb lb HRS12.out.y1 eb w12 HRS12.out.R1 t HTM.out A' c'
          rw [← HQ.out.1, ← HQ.out.2.1, ← HQ.out.2.2] at htk
          refine htk.mono ?_
          clear htk
          rintro e w24 ⟨A3, c3, rfl, hk, hl, hC, hF⟩
          refine ⟨.agg #[.int .i64 g.1, .int .i64 g.kind, .int .u64 g.n, .int .i64 g.i, .int .i64 g.w, .int .u8 (rd g.id 0), .int .u8 (rd g.id 1), .int .u8 (rd g.id 2), .int .u8 (rd g.id 3), .int .u8 (rd g.id 4), .int .u8 (rd g.id 5), .int .u8 (rd g.id 6), .int .u8 (rd g.id 7), .int .i16 g.p.1, .int .i16 g.p.2, .slice A3 g.t.length c3], rfl, ?_⟩
          have hF' : ∀ a, A3 = some a → wr.heap.size ≤ a.block := fun a ha => Nat.le_trans (by have := blk_lt HGT12.out; omega) (hF a ha)
          obtain ⟨vx, hrs, hc⟩ := HRS12.out.took1 hk HYX.out
          have HFR : Aside0 (∀ a, A3 = some a → w12.heap.size ≤ a.block) := ⟨hF⟩
          have HB24 : Aside0 (Below w.heap.size w w24) := ⟨HB12.out.trans (hc.below HB12.out.size (fun i hi => by have e : i = r1 := hi; have := HNN.out; have := HTN.out; omega))⟩
          have HLB24 := Aside0.mk (lent_keep HLB12.out hc (fun e => by have e' : gb = r1 := e; have := HNN.out; have := HTN.out; omega))
          have HRS24 := Aside0.mk (hrs)
          have HG324 := Aside0.mk (hc.heap HG312.out (fun e => by have e' : w4.heap.size = r1 := e; have := HNN.out; have := HTN.out; omega))
          have HGR24 := Aside0.mk (hc.heap HGR12.out (fun e => by have e' : w4.heap.size + 1 = r1 := e; have := HNN.out; have := HTN.out; omega))
          have HGT24 := Aside0.mk (hc.heap HGT12.out (fun e => by have e' : wr.heap.size = r1 := e; have := HNN.out; have := HTN.out; omega))
          clear HB12 HLB12 HRS12 HG312 HGR12 HGT12
          have HTX24 : Aside0 (Tx w24 wr.heap.size A3 c3 g.t) := ⟨⟨hC, hl, hF'⟩⟩
          clear hrs hc hk hl hC hF hF'
          refine hK.out _ _ ⟨(blk_cell HGR24.out 0).trans rfl, (blk_cell HGR24.out 1).trans rfl, (blk_cell HGR24.out 2).trans rfl, (blk_cell HGR24.out 3).trans rfl, (blk_cell HGT24.out 0).trans rfl, (blk_cell HGT24.out 1).trans rfl, (blk_cell HGT24.out 2).trans rfl, (blk_cell HGT24.out 3).trans rfl, (blk_cell HGT24.out 4).trans rfl, (blk_cell HGT24.out 5).trans rfl, (blk_cell HGT24.out 6).trans rfl, (blk_cell HGT24.out 7).trans rfl, (blk_cell HGT24.out 8).trans rfl, (blk_cell HGT24.out 9).trans rfl, (blk_cell HGT24.out 10).trans rfl, (blk_cell HGT24.out 11).trans rfl, (blk_cell HGT24.out 12).trans rfl, (blk_cell HGT24.out 13).trans rfl, (blk_cell HGT24.out 14).trans rfl, (blk_cell HGT24.out 15).trans rfl⟩ (fun hHeld => ?_)
          clear hK K
          refine norm_ (a' := ?_) ?_ ?_
          rotate_left
          · show Act.put _ (some 95) _ = _
            simp only [Act.put, List.setIfInBounds_toArray, List.set_cons_zero, List.set_cons_succ, i64_w, i32_w]
            rfl
          refine one_ (i := 6) (N := some 16) #[true, true, true, true, true, true, true, false] rfl rfl (one_of HT_.out (by kernel_rfl)) (by decide) (fun K hK => ?_)
          refine value_ (v := .pointer (some ⟨w24.heap.size, 0, none⟩)) (w1 := w24.alloc (.cells #[.int .i64 0, .int .i64 0, .int .u64 0, .int .i64 0, .int .i64 0, .int .u8 0, .int .u8 0, .int .u8 0, .int .u8 0, .int .u8 0, .int .u8 0, .int .u8 0, .int .u8 0, .int .i16 0, .int .i16 0, .slice none 0 0] 46)) (by rfl) rfl ?_ ?_
          · first | (go_simp; done) | (go_simp; rfl)
          have hba : Below w24.heap.size w24 (w24.alloc (.cells #[.int .i64 0, .int .i64 0, .int .u64 0, .int .i64 0, .int .i64 0, .int .u8 0, .int .u8 0, .int .u8 0, .int .u8 0, .int .u8 0, .int .u8 0, .int .u8 0, .int .u8 0, .int .i16 0, .int .i16 0, .slice none 0 0] 46)) := below_new _ _
          have HGG25 : Aside0 ((w24.alloc (.cells #[.int .i64 0, .int .i64 0, .int .u64 0, .int .i64 0, .int .i64 0, .int .u8 0, .int .u8 0, .int .u8 0, .int .u8 0, .int .u8 0, .int .u8 0, .int .u8 0, .int .u8 0, .int .i16 0, .int .i16 0, .slice none 0 0] 46)).heap[w24.heap.size]? = some (.cells #[.int .i64 0, .int .i64 0, .int .u64 0, .int .i64 0, .int .i64 0, .int .u8 0, .int .u8 0, .int .u8 0, .int .u8 0, .int .u8 0, .int .u8 0, .int .u8 0, .int .u8 0, .int .i16 0, .int .i16 0, .slice none 0 0] 46 (0, 0))) := ⟨blk_new _ _⟩
          have HTZ : Aside0 (wr.heap.size < w24.heap.size) := ⟨blk_lt HGT24.out⟩
          have HTE : Aside0 (g.t = [] ∨ ∀ a, A3 = some a → a.block ≠ w24.heap.size) := ⟨by
           rcases C_lt HTX24.out.hc with e | ⟨a, e, hlt⟩
           · exact Or.inl e
           · exact Or.inr (fun b hb => by rw [e] at hb; cases hb; exact Nat.ne_of_lt hlt)⟩
          have HB25 := Aside0.mk (below_step HB24.out hba)
          have HLB25 := Aside0.mk (lent_below HLB24.out hba)
          have HRS25 := Aside0.mk (HRS24.out.below hba)
          have HG325 := Aside0.mk ((hba.block _ (blk_lt HG324.out)).trans HG324.out)
          have HGR25 := Aside0.mk ((hba.block _ (blk_lt HGR24.out)).trans HGR24.out)
          have HGT25 := Aside0.mk ((hba.block _ (blk_lt HGT24.out)).trans HGT24.out)
          have HTX25 := Aside0.mk (HTX24.out.below hba)
          clear HB24 HLB24 HRS24 HG324 HGR24 HGT24 HTX24 hba
          generalize w24.alloc (.cells #[.int .i64 0, .int .i64 0, .int .u64 0, .int .i64 0, .int .i64 0, .int .u8 0, .int .u8 0, .int .u8 0, .int .u8 0, .int .u8 0, .int .u8 0, .int .u8 0, .int .u8 0, .int .i16 0, .int .i16 0, .slice none 0 0] 46) = w25 at HB25 HLB25 HRS25 HG325 HGR25 HGT25 HTX25 HGG25 ⊢
          refine hK.out _ _ ⟨(blk_cell HGR25.out 0).trans rfl, (blk_cell HGR25.out 1).trans rfl, (blk_cell HGR25.out 2).trans rfl, (blk_cell HGR25.out 3).trans rfl, (blk_cell HGT25.out 0).trans rfl, (blk_cell HGT25.out 1).trans rfl, (blk_cell HGT25.out 2).trans rfl, (blk_cell HGT25.out 3).trans rfl, (blk_cell HGT25.out 4).trans rfl, (blk_cell HGT25.out 5).trans rfl, (blk_cell HGT25.out 6).trans rfl, (blk_cell HGT25.out 7).trans rfl, (blk_cell HGT25.out 8).trans rfl, (blk_cell HGT25.out 9).trans rfl, (blk_cell HGT25.out 10).trans rfl, (blk_cell HGT25.out 11).trans rfl, (blk_cell HGT25.out 12).trans rfl, (blk_cell HGT25.out 13).trans rfl, (blk_cell HGT25.out 14).trans rfl, (blk_cell HGT25.out 15).trans rfl⟩ (fun hHeld => ?_)
          clear hK K
          refine norm_ (a' := ?_) ?_ ?_
          rotate_left
          · show Act.put _ (some 16) _ = _
            simp only [Act.put, List.setIfInBounds_toArray, List.set_cons_zero, List.set_cons_succ, i64_w, i32_w]
            rfl
          exact norm_ (by first | (simp only [putAll, Act.put, List.setIfInBounds_toArray, List.set_cons_zero, List.set_cons_succ]; done) | (simp only [putAll, Act.put, List.setIfInBounds_toArray, List.set_cons_zero, List.set_cons_succ]; rfl)) (hJ (A3, c3, w24.heap.size, vx) _ ⟨HTZ.out, HTE.out, HB25, HLB25, HRS25, HG325, HGR25, HGT25, HGG25, HTX25⟩)
        · refine value_ (v := .pointer (some ⟨w12.heap.size, 0, none⟩)) (w1 := w12.alloc (.cells #[.int .i64 0, .int .i64 0, .int .u64 0, .int .i64 0, .int .i64 0, .int .u8 0, .int .u8 0, .int .u8 0, .int .u8 0, .int .u8 0, .int .u8 0, .int .u8 0, .int .u8 0, .int .i16 0, .int .i16 0, .slice none 0 0] 46)) (by rfl) rfl ?_ ?_
          · first | (go_simp; done) | (go_simp; rfl)
          have hba : Below w12.heap.size w12 (w12.alloc (.cells #[.int .i64 0, .int .i64 0, .int .u64 0, .int .i64 0, .int .i64 0, .int .u8 0, .int .u8 0, .int .u8 0, .int .u8 0, .int .u8 0, .int .u8 0, .int .u8 0, .int .u8 0, .int .i16 0, .int .i16 0, .slice none 0 0] 46)) := below_new _ _
          have HGG24 : Aside0 ((w12.alloc (.cells #[.int .i64 0, .int .i64 0, .int .u64 0, .int .i64 0, .int .i64 0, .int .u8 0, .int .u8 0, .int .u8 0, .int .u8 0, .int .u8 0, .int .u8 0, .int .u8 0, .int .u8 0, .int .i16 0, .int .i16 0, .slice none 0 0] 46)).heap[w12.heap.size]? = some (.cells #[.int .i64 0, .int .i64 0, .int .u64 0, .int .i64 0, .int .i64 0, .int .u8 0, .int .u8 0, .int .u8 0, .int .u8 0, .int .u8 0, .int .u8 0, .int .u8 0, .int .u8 0, .int .i16 0, .int .i16 0, .slice none 0 0] 46 (0, 0))) := ⟨blk_new _ _⟩
          have HTZ : Aside0 (wr.heap.size < w12.heap.size) := ⟨blk_lt HGT12.out⟩
          have HB24 := Aside0.mk (below_step HB12.out hba)
          have HLB24 := Aside0.mk (lent_below HLB12.out hba)
          have HRS24 := Aside0.mk (HRS12.out.below hba)
          have HG324 := Aside0.mk ((hba.block _ (blk_lt HG312.out)).trans HG312.out)
          have HGR24 := Aside0.mk ((hba.block _ (blk_lt HGR12.out)).trans HGR12.out)
          have HGT24 := Aside0.mk ((hba.block _ (blk_lt HGT12.out)).trans HGT12.out)
          clear HB12 HLB12 HRS12 HG312 HGR12 HGT12 hba
          generalize w12.alloc (.cells #[.int .i64 0, .int .i64 0, .int .u64 0, .int .i64 0, .int .i64 0, .int .u8 0, .int .u8 0, .int .u8 0, .int .u8 0, .int .u8 0, .int .u8 0, .int .u8 0, .int .u8 0, .int .i16 0, .int .i16 0, .slice none 0 0] 46) = w24 at HB24 HLB24 HRS24 HG324 HGR24 HGT24 HGG24 ⊢
          refine hK.out _ _ ⟨(blk_cell HGR24.out 0).trans rfl, (blk_cell HGR24.out 1).trans rfl, (blk_cell HGR24.out 2).trans rfl, (blk_cell HGR24.out 3).trans rfl, (blk_cell HGT24.out 0).trans rfl, (blk_cell HGT24.out 1).trans rfl, (blk_cell HGT24.out 2).trans rfl, (blk_cell HGT24.out 3).trans rfl, (blk_cell HGT24.out 4).trans rfl, (blk_cell HGT24.out 5).trans rfl, (blk_cell HGT24.out 6).trans rfl, (blk_cell HGT24.out 7).trans rfl, (blk_cell HGT24.out 8).trans rfl, (blk_cell HGT24.out 9).trans rfl, (blk_cell HGT24.out 10).trans rfl, (blk_cell HGT24.out 11).trans rfl, (blk_cell HGT24.out 12).trans rfl, (blk_cell HGT24.out 13).trans rfl, (blk_cell HGT24.out 14).trans rfl, (blk_cell HGT24.out 15).trans rfl⟩ (fun hHeld => ?_)
          clear hK K
          refine norm_ (a' := ?_) ?_ ?_
          rotate_left
          · show Act.put _ (some 16) _ = _
            simp only [Act.put, List.setIfInBounds_toArray, List.set_cons_zero, List.set_cons_succ, i64_w, i32_w]
            rfl
          have HTW : Aside0 (w12.heap.size < w24.heap.size) := ⟨blk_lt HGG24.out⟩
          refine one_ (i := 5) (N := some 95) #[true, true, true, true, true, true, true, false] rfl rfl (one_of HT_.out (by kernel_rfl)) (by decide) (fun K hK => ?_)
          refine goes_ Try.func34 (by kernel_rfl) rfl #[.pointer (some ⟨r1, 0, none⟩), .agg #[.int .i64 t.1, .int .i64 t.kind, .int .u64 t.n, .int .i64 t.i, .int .i64 t.w, .int .u8 (rd t.id 0), .int .u8 (rd t.id 1), .int .u8 (rd t.id 2), .int .u8 (rd t.id 3), .int .u8 (rd t.id 4), .int .u8 (rd t.id 5), .int .u8 (rd t.id 6), .int .u8 (rd t.id 7), .int .i16 t.p.1, .int .i16 t.p.2, .slice A' t.t.length c']] (by rfl) rfl rfl (by (try simp only [List.map_toArray, List.map_cons, List.map_nil]); first | done | rfl) ?_
          have htk := took_allP w2.heap.size r1 vb lb HRS24.out.y1 eb w24 HRS24.out.R1 t HTM.out A' c'
          rw [← HQ.out.1, ← HQ.out.2.1, ← HQ.out.2.2] at htk
          refine htk.mono ?_
          clear htk
          rintro e w25 ⟨A3, c3, rfl, hk, hl, hC, hF⟩
          refine ⟨.agg #[.int .i64 g.1, .int .i64 g.kind, .int .u64 g.n, .int .i64 g.i, .int .i64 g.w, .int .u8 (rd g.id 0), .int .u8 (rd g.id 1), .int .u8 (rd g.id 2), .int .u8 (rd g.id 3), .int .u8 (rd g.id 4), .int .u8 (rd g.id 5), .int .u8 (rd g.id 6), .int .u8 (rd g.id 7), .int .i16 g.p.1, .int .i16 g.p.2, .slice A3 g.t.length c3], rfl, ?_⟩
          have hF' : ∀ a, A3 = some a → wr.heap.size ≤ a.block := fun a ha => Nat.le_trans (by have := blk_lt HGT24.out; omega) (hF a ha)
          obtain ⟨vx, hrs, hc⟩ := HRS24.out.took1 hk HYX.out
          have HFR : Aside0 (∀ a, A3 = some a → w24.heap.size ≤ a.block) := ⟨hF⟩
          have HB25 : Aside0 (Below w.heap.size w w25) := ⟨HB24.out.trans (hc.below HB24.out.size (fun i hi => by have e : i = r1 := hi; have := HNN.out; have := HTN.out; have := HTZ.out; omega))⟩
          have HLB25 := Aside0.mk (lent_keep HLB24.out hc (fun e => by have e' : gb = r1 := e; have := HNN.out; have := HTN.out; have := HTZ.out; omega))
          have HRS25 := Aside0.mk (hrs)
          have HG325 := Aside0.mk (hc.heap HG324.out (fun e => by have e' : w4.heap.size = r1 := e; have := HNN.out; have := HTN.out; have := HTZ.out; omega))
          have HGR25 := Aside0.mk (hc.heap HGR24.out (fun e => by have e' : w4.heap.size + 1 = r1 := e; have := HNN.out; have := HTN.out; have := HTZ.out; omega))
          have HGT25 := Aside0.mk (hc.heap HGT24.out (fun e => by have e' : wr.heap.size = r1 := e; have := HNN.out; have := HTN.out; have := HTZ.out; omega))
          have HGG25 := Aside0.mk (hc.heap HGG24.out (fun e => by have e' : w12.heap.size = r1 := e; have := HNN.out; have := HTN.out; have := HTZ.out; omega))
          clear HB24 HLB24 HRS24 HG324 HGR24 HGT24 HGG24
          have HTX25 : Aside0 (Tx w25 wr.heap.size A3 c3 g.t) := ⟨⟨hC, hl, hF'⟩⟩
          clear hrs hc hk hl hC hF hF'
          refine hK.out _ _ ⟨(blk_cell HGR25.out 0).trans rfl, (blk_cell HGR25.out 1).trans rfl, (blk_cell HGR25.out 2).trans rfl, (blk_cell HGR25.out 3).trans rfl, (blk_cell HGT25.out 0).trans rfl, (blk_cell HGT25.out 1).trans rfl, (blk_cell HGT25.out 2).trans rfl, (blk_cell HGT25.out 3).trans rfl, (blk_cell HGT25.out 4).trans rfl, (blk_cell HGT25.out 5).trans rfl, (blk_cell HGT25.out 6).trans rfl, (blk_cell HGT25.out 7).trans rfl, (blk_cell HGT25.out 8).trans rfl, (blk_cell HGT25.out 9).trans rfl, (blk_cell HGT25.out 10).trans rfl, (blk_cell HGT25.out 11).trans rfl, (blk_cell HGT25.out 12).trans rfl, (blk_cell HGT25.out 13).trans rfl, (blk_cell HGT25.out 14).trans rfl, (blk_cell HGT25.out 15).trans rfl⟩ (fun hHeld => ?_)
          clear hK K
          refine norm_ (a' := ?_) ?_ ?_
          rotate_left
          · show Act.put _ (some 95) _ = _
            simp only [Act.put, List.setIfInBounds_toArray, List.set_cons_zero, List.set_cons_succ, i64_w, i32_w]
            rfl
          have HTE : Aside0 (g.t = [] ∨ ∀ a, A3 = some a → a.block ≠ w12.heap.size) := ⟨Or.inr (fun a ha => by have := HFR.out a ha; have := HTW.out; omega)⟩
          exact norm_ (by first | (simp only [putAll, Act.put, List.setIfInBounds_toArray, List.set_cons_zero, List.set_cons_succ]; done) | (simp only [putAll, Act.put, List.setIfInBounds_toArray, List.set_cons_zero, List.set_cons_succ]; rfl)) (hJ (A3, c3, w12.heap.size, vx) _ ⟨HTZ.out, HTE.out, HB25, HLB25, HRS25, HG325, HGR25, HGT25, HGG25, HTX25⟩)
     · as_aux_lemma =>
        obtain ⟨kd, wd, hd⟩ : ∃ kd wd, dead t = (0, kd, 0, 0, wd, zero8, (0, 0), []) := ⟨_, _, rfl⟩
        have HDD : Aside0 (∀ (A : Option Addr) (c : Nat), thingOf (dead t) A c = #[.int .i64 0, .int .i64 kd, .int .u64 0, .int .i64 0, .int .i64 wd, .int .u8 0, .int .u8 0, .int .u8 0, .int .u8 0, .int .u8 0, .int .u8 0, .int .u8 0, .int .u8 0, .int .i16 0, .int .i16 0, .slice A 0 c]) := ⟨fun A c => by rw [hd]; rfl⟩
        clear hd
        go_wp2_with fail
        have hbd : Below w11.heap.size w11 w11.drew := below_drew1 (Below.refl _ _)
        have HB12 := Aside0.mk (below_step HB11.out hbd)
        have HLB12 := Aside0.mk (lent_below HLB11.out hbd)
        have HRS12 := Aside0.mk (HRS11.out.below hbd)
        have HG312 := Aside0.mk ((hbd.block _ (blk_lt HG311.out)).trans HG311.out)
        have HGR12 := Aside0.mk ((hbd.block _ (blk_lt HGR11.out)).trans HGR11.out)
        have HGT12 := Aside0.mk ((hbd.block _ (blk_lt HGT11.out)).trans HGT11.out)
        clear HB11 HLB11 HRS11 HG311 HGR11 HGT11 hbd
        refine start_ (n := 8) (S := fun w' => w'.cell? ⟨w4.heap.size + 1, 0, none⟩ = some (.pointer (some ⟨r0, 0, none⟩)) ∧ w'.cell? ⟨w4.heap.size + 1, 1, none⟩ = some (.pointer (some ⟨r1, 0, none⟩)) ∧ w'.cell? ⟨w4.heap.size + 1, 2, none⟩ = some (.pointer none) ∧ w'.cell? ⟨w4.heap.size + 1, 3, none⟩ = some (.pointer (some ⟨w4.heap.size, 0, none⟩)) ∧ w'.cell? ⟨wr.heap.size, 0, none⟩ = some (.int .i64 t.1) ∧ w'.cell? ⟨wr.heap.size, 1, none⟩ = some (.int .i64 t.kind) ∧ w'.cell? ⟨wr.heap.size, 2, none⟩ = some (.int .u64 t.n) ∧ w'.cell? ⟨wr.heap.size, 3, none⟩ = some (.int .i64 t.i) ∧ w'.cell? ⟨wr.heap.size, 4, none⟩ = some (.int .i64 t.w) ∧ w'.cell? ⟨wr.heap.size, 5, none⟩ = some (.int .u8 (rd t.id 0)) ∧ w'.cell? ⟨wr.heap.size, 6, none⟩ = some (.int .u8 (rd t.id 1)) ∧ w'.cell? ⟨wr.heap.size, 7, none⟩ = some (.int .u8 (rd t.id 2)) ∧ w'.cell? ⟨wr.heap.size, 8, none⟩ = some (.int .u8 (rd t.id 3)) ∧ w'.cell? ⟨wr.heap.size, 9, none⟩ = some (.int .u8 (rd t.id 4)) ∧ w'.cell? ⟨wr.heap.size, 10, none⟩ = some (.int .u8 (rd t.id 5)) ∧ w'.cell? ⟨wr.heap.size, 11, none⟩ = some (.int .u8 (rd t.id 6)) ∧ w'.cell? ⟨wr.heap.size, 12, none⟩ = some (.int .u8 (rd t.id 7)) ∧ w'.cell? ⟨wr.heap.size, 13, none⟩ = some (.int .i16 t.p.1) ∧ w'.cell? ⟨wr.heap.size, 14, none⟩ = some (.int .i16 t.p.2) ∧ w'.cell? ⟨wr.heap.size, 15, none⟩ = some (.slice A' t.t.length c')) (ds := []) #[false, false, false, false, false, false, false, false] (by kernel_rfl) rfl rfl ⟨(blk_cell HGR12.out 0).trans rfl, (blk_cell HGR12.out 1).trans rfl, (blk_cell HGR12.out 2).trans rfl, (blk_cell HGR12.out 3).trans rfl, (blk_cell HGT12.out 0).trans rfl, (blk_cell HGT12.out 1).trans rfl, (blk_cell HGT12.out 2).trans rfl, (blk_cell HGT12.out 3).trans rfl, (blk_cell HGT12.out 4).trans rfl, (blk_cell HGT12.out 5).trans rfl, (blk_cell HGT12.out 6).trans rfl, (blk_cell HGT12.out 7).trans rfl, (blk_cell HGT12.out 8).trans rfl, (blk_cell HGT12.out 9).trans rfl, (blk_cell HGT12.out 10).trans rfl, (blk_cell HGT12.out 11).trans rfl, (blk_cell HGT12.out 12).trans rfl, (blk_cell HGT12.out 13).trans rfl, (blk_cell HGT12.out 14).trans rfl, (blk_cell HGT12.out 15).trans rfl⟩ (fun hHeld => ?_)
        refine with_tabW reads_tab19 reads_bits19 (fun HT_ HW_ => ?_)
        generalize w11.drew = w12 at HB12 HLB12 HRS12 HG312 HGR12 HGT12 hHeld ⊢
        refine pure_ (i := 0) (N := some 90) (v := ?_) (a' := ?_) #[true, false, false, false, false, false, false, false] rfl rfl (any_of HT_.out (by kernel_rfl)) (fun _ _ _ h => h) (Or.inl ⟨by rfl, ?_⟩) ?_ ?_
        rotate_left
        · intro w'
          go_simp
          with_reducible rfl
        rotate_left
        · simp only [Act.put, List.setIfInBounds_toArray, List.set_cons_zero, List.set_cons_succ, i64_w, i32_w]
          rfl
        refine pure_ (i := 1) (N := some 91) (v := ?_) (a' := ?_) #[true, true, false, false, false, false, false, false] rfl rfl (any_of HT_.out (by kernel_rfl)) (fun _ _ _ h => h) (Or.inl ⟨by rfl, ?_⟩) ?_ ?_
        rotate_left
        · intro w'
          go_simp
          with_reducible rfl
        rotate_left
        · simp only [Act.put, List.setIfInBounds_toArray, List.set_cons_zero, List.set_cons_succ, i64_w, i32_w]
          rfl
        refine pure_ (i := 2) (N := some 92) (v := ?_) (a' := ?_) #[true, true, true, false, false, false, false, false] rfl rfl (any_of HT_.out (by kernel_rfl)) (fun _ _ _ h => h) (Or.inl ⟨by rfl, ?_⟩) ?_ ?_
        rotate_left
        · intro w'
          go_simp
          with_reducible rfl
        rotate_left
        · simp only [Act.put, List.setIfInBounds_toArray, List.set_cons_zero, List.set_cons_succ, i64_w, i32_w]
          rfl
        refine take_ (i := 3) (N := some 93) (v := ?_) (a' := ?_) #[true, true, true, true, false, false, false, false] rfl rfl (take_ofW HT_.out HW_.out (by kernel_rfl)) (fun _ _ _ h => h) (Or.inl ⟨by rfl, ?_⟩) hHeld ?_ ?_
        rotate_left
        · rintro w' ⟨s0, s1, s2, s3, s4, s5, s6, s7, s8, s9, s10, s11, s12, s13, s14, s15, s16, s17, s18, s19⟩
          go_simp
          with_reducible rfl
        rotate_left
        · simp only [Act.put, List.setIfInBounds_toArray, List.set_cons_zero, List.set_cons_succ, i64_w, i32_w]
          rfl
        refine take_ (i := 4) (N := some 94) (v := ?_) (a' := ?_) #[true, true, true, true, true, false, false, false] rfl rfl (take_ofW HT_.out HW_.out (by kernel_rfl)) (fun _ _ _ h => h) (Or.inl ⟨by rfl, ?_⟩) hHeld ?_ ?_
        rotate_left
        · rintro w' ⟨s0, s1, s2, s3, s4, s5, s6, s7, s8, s9, s10, s11, s12, s13, s14, s15, s16, s17, s18, s19⟩
          go_simp
          with_reducible rfl
        rotate_left
        · simp only [Act.put, List.setIfInBounds_toArray, List.set_cons_zero, List.set_cons_succ, i64_w, i32_w]
          rfl
        refine join_ (σ := Option Addr × Nat × Nat) 1 #[true, true, true, true, true, true, true, false] (fun s => [(95, .agg #[.int .i64 0, .int .i64 kd, .int .u64 0, .int .i64 0, .int .i64 wd, .int .u8 0, .int .u8 0, .int .u8 0, .int .u8 0, .int .u8 0, .int .u8 0, .int .u8 0, .int .u8 0, .int .i16 0, .int .i16 0, .slice s.1 0 s.2.1]), (16, .pointer (some ⟨s.2.2, 0, none⟩))]) (fun s w' => match s with | (A3, c3, gt) => wr.heap.size < gt ∧ (([] : List Int) = [] ∨ ∀ a, A3 = some a → a.block ≠ gt) ∧ Aside0 (Below w.heap.size w w') ∧ Aside0 (Lent w' w1.heap.size gb cb two) ∧ Aside0 (RS w' w2.heap.size w4.heap.size r0 r1 w7.heap.size gb0 gb1 (va) (la) (ea) (vb) (lb) (eb) (la) (ea) (lb) (eb)) ∧ Aside0 (w'.heap[w4.heap.size]? = some (.cells #[.slice none 0 0, .int .i64 0, .bool false] 65 (0, 0))) ∧ Aside0 (w'.heap[w4.heap.size + 1]? = some (.cells #[.pointer (some ⟨r0, 0, none⟩), .pointer (some ⟨r1, 0, none⟩), .pointer none, .pointer (some ⟨w4.heap.size, 0, none⟩)] 55 (0, 0))) ∧ Aside0 (w'.heap[wr.heap.size]? = some (.cells #[.int .i64 t.1, .int .i64 t.kind, .int .u64 t.n, .int .i64 t.i, .int .i64 t.w, .int .u8 (rd t.id 0), .int .u8 (rd t.id 1), .int .u8 (rd t.id 2), .int .u8 (rd t.id 3), .int .u8 (rd t.id 4), .int .u8 (rd t.id 5), .int .u8 (rd t.id 6), .int .u8 (rd t.id 7), .int .i16 t.p.1, .int .i16 t.p.2, .slice A' t.t.length c'] 46 (0, 0))) ∧ Aside0 (w'.heap[gt]? = some (.cells #[.int .i64 0, .int .i64 0, .int .u64 0, .int .i64 0, .int .i64 0, .int .u8 0, .int .u8 0, .int .u8 0, .int .u8 0, .int .u8 0, .int .u8 0, .int .u8 0, .int .u8 0, .int .i16 0, .int .i16 0, .slice none 0 0] 46 (0, 0)))) ?cont (fun hJ => ?_)
        case cont =>
         rintro ⟨A3, c3, gt⟩ w13 ⟨hgt, hte, HB13, HLB13, HRS13, HG313, HGR13, HGT13, HGG13⟩
         have HTG : Aside0 (wr.heap.size < gt) := ⟨hgt⟩
         have HTE : Aside0 (([] : List Int) = [] ∨ ∀ a, A3 = some a → a.block ≠ gt) := ⟨hte⟩
         clear hgt hte hHeld HB12 HLB12 HRS12 HG312 HGR12 HGT12
         refine norm_ (a' := ?_) ?_ ?_
         rotate_left
         · simp only [putAll, Act.put, List.setIfInBounds_toArray, List.set_cons_zero, List.set_cons_succ]
           rfl
         refine one_ (i := 7) (N := none) #[true, true, true, true, true, true, true, true] rfl rfl (one_of HT_.out (by kernel_rfl)) (by decide) (fun K hK => ?_)
         refine rowstore_ (by rfl) rfl 46 (.tmp 16) (.tmp 95) rfl (gt) #[.int .i64 0, .int .i64 kd, .int .u64 0, .int .i64 0, .int .i64 wd, .int .u8 0, .int .u8 0, .int .u8 0, .int .u8 0, .int .u8 0, .int .u8 0, .int .u8 0, .int .u8 0, .int .i16 0, .int .i16 0, .slice A3 0 c3] (by rfl) (by rfl) _ _ HGG13.out infoTh rfl (by simp [Value.oneCell']) ?_
         have hs := chg_row (cs := #[.int .i64 0, .int .i64 kd, .int .u64 0, .int .i64 0, .int .i64 wd, .int .u8 0, .int .u8 0, .int .u8 0, .int .u8 0, .int .u8 0, .int .u8 0, .int .u8 0, .int .u8 0, .int .i16 0, .int .i16 0, .slice A3 0 c3]) HGG13.out
         generalize w13.setRow (gt) #[.int .i64 0, .int .i64 kd, .int .u64 0, .int .i64 0, .int .i64 wd, .int .u8 0, .int .u8 0, .int .u8 0, .int .u8 0, .int .u8 0, .int .u8 0, .int .u8 0, .int .u8 0, .int .i16 0, .int .i16 0, .slice A3 0 c3] = w14 at hs ⊢
         have HB14 : Aside0 (Below w.heap.size w w14) := ⟨HB13.out.trans (hs.2.below HB13.out.size (fun i hi => by have e : i = gt := hi; have := HNN.out; have := HTN.out; have := HTG.out; omega))⟩
         have HLB14 := Aside0.mk (lent_keep HLB13.out hs.2 (fun e => by have e' : gb = gt := e; have := HNN.out; have := HTN.out; have := HTG.out; omega))
         have HRS14 := Aside0.mk (HRS13.out.cell hs.2 (by have := HNN.out; have := HTN.out; have := HTG.out; omega) (by refine ⟨?_, ?_, ?_⟩ <;> (have := HNN.out; have := HTN.out; have := HTG.out; omega)))
         have HG314 := Aside0.mk (hs.2.heap HG313.out (fun e => by have e' : w4.heap.size = gt := e; have := HNN.out; have := HTN.out; have := HTG.out; omega))
         have HGR14 := Aside0.mk (hs.2.heap HGR13.out (fun e => by have e' : w4.heap.size + 1 = gt := e; have := HNN.out; have := HTN.out; have := HTG.out; omega))
         have HGT14 := Aside0.mk (hs.2.heap HGT13.out (fun e => by have e' : wr.heap.size = gt := e; have := HNN.out; have := HTN.out; have := HTG.out; omega))
         have HGG14 := Aside0.mk (hs.1)
         clear HB13 HLB13 HRS13 HG313 HGR13 HGT13 HGG13
         clear hs
         refine hK.out _ _ ⟨(blk_cell HGR14.out 0).trans rfl, (blk_cell HGR14.out 1).trans rfl, (blk_cell HGR14.out 2).trans rfl, (blk_cell HGR14.out 3).trans rfl, (blk_cell HGT14.out 0).trans rfl, (blk_cell HGT14.out 1).trans rfl, (blk_cell HGT14.out 2).trans rfl, (blk_cell HGT14.out 3).trans rfl, (blk_cell HGT14.out 4).trans rfl, (blk_cell HGT14.out 5).trans rfl, (blk_cell HGT14.out 6).trans rfl, (blk_cell HGT14.out 7).trans rfl, (blk_cell HGT14.out 8).trans rfl, (blk_cell HGT14.out 9).trans rfl, (blk_cell HGT14.out 10).trans rfl, (blk_cell HGT14.out 11).trans rfl, (blk_cell HGT14.out 12).trans rfl, (blk_cell HGT14.out 13).trans rfl, (blk_cell HGT14.out 14).trans rfl, (blk_cell HGT14.out 15).trans rfl⟩ (fun hHeld => ?_)
         clear hK K
         refine done_ (done_of HT_.out (by kernel_rfl)) ?_
         clear hHeld HT_ HW_
         have HGGc1 : w14.cell? ⟨gt, 1, none⟩ = some (.int .i64 kd) := (blk_cell HGG14.out 1).trans rfl
         have HGGc4 : w14.cell? ⟨gt, 4, none⟩ = some (.int .i64 wd) := (blk_cell HGG14.out 4).trans rfl
         go_upto_region 23 with (fail)
         clear HGGc1 HGGc4
         have hba : Below w14.heap.size w14 (w14.alloc (.cells #[.int .i64 0, .int .i64 kd, .int .u64 0, .int .i64 0, .int .i64 wd, .int .u8 0, .int .u8 0, .int .u8 0, .int .u8 0, .int .u8 0, .int .u8 0, .int .u8 0, .int .u8 0, .int .i16 0, .int .i16 0, .slice none 0 0] 46)) := below_new _ _
         have HGX15 : Aside0 ((w14.alloc (.cells #[.int .i64 0, .int .i64 kd, .int .u64 0, .int .i64 0, .int .i64 wd, .int .u8 0, .int .u8 0, .int .u8 0, .int .u8 0, .int .u8 0, .int .u8 0, .int .u8 0, .int .u8 0, .int .i16 0, .int .i16 0, .slice none 0 0] 46)).heap[w14.heap.size]? = some (.cells #[.int .i64 0, .int .i64 kd, .int .u64 0, .int .i64 0, .int .i64 wd, .int .u8 0, .int .u8 0, .int .u8 0, .int .u8 0, .int .u8 0, .int .u8 0, .int .u8 0, .int .u8 0, .int .i16 0, .int .i16 0, .slice none 0 0] 46 (0, 0))) := ⟨blk_new _ _⟩
         have HTZ : Aside0 (gt < w14.heap.size ∧ wr.heap.size < w14.heap.size ∧ gb0 < w14.heap.size ∧ gb1 < w14.heap.size) := ⟨blk_lt HGG14.out, blk_lt HGT14.out, HRS14.out.n.2.2.2⟩
         have HB15 := Aside0.mk (below_step HB14.out hba)
         have HLB15 := Aside0.mk (lent_below HLB14.out hba)
         have HRS15 := Aside0.mk (HRS14.out.below hba)
         have HG315 := Aside0.mk ((hba.block _ (blk_lt HG314.out)).trans HG314.out)
         have HGR15 := Aside0.mk ((hba.block _ (blk_lt HGR14.out)).trans HGR14.out)
         have HGT15 := Aside0.mk ((hba.block _ (blk_lt HGT14.out)).trans HGT14.out)
         have HGG15 := Aside0.mk ((hba.block _ (blk_lt HGG14.out)).trans HGG14.out)
         clear HB14 HLB14 HRS14 HG314 HGR14 HGT14 HGG14 hba
         generalize w14.alloc (.cells #[.int .i64 0, .int .i64 kd, .int .u64 0, .int .i64 0, .int .i64 wd, .int .u8 0, .int .u8 0, .int .u8 0, .int .u8 0, .int .u8 0, .int .u8 0, .int .u8 0, .int .u8 0, .int .i16 0, .int .i16 0, .slice none 0 0] 46) = w15 at HB15 HLB15 HRS15 HG315 HGR15 HGT15 HGG15 HGX15 ⊢
         as_aux_lemma =>
          obtain ⟨HGGc0, HGGc1, HGGc2, HGGc3, HGGc4, HGGc5, HGGc6, HGGc7, HGGc8, HGGc9, HGGc10, HGGc11, HGGc12, HGGc13, HGGc14, HGGc15⟩ := cells16 HGG15.out
          obtain ⟨HGXc0, HGXc1, HGXc2, HGXc3, HGXc4, HGXc5, HGXc6, HGXc7, HGXc8, HGXc9, HGXc10, HGXc11, HGXc12, HGXc13, HGXc14, HGXc15⟩ := cells16 HGX15.out
          go_wp2_with fail
          clear HGGc0 HGGc1 HGGc2 HGGc3 HGGc4 HGGc5 HGGc6 HGGc7 HGGc8 HGGc9 HGGc10 HGGc11 HGGc12 HGGc13 HGGc14 HGGc15
          clear HGXc0 HGXc1 HGXc2 HGXc3 HGXc4 HGXc5 HGXc6 HGXc7 HGXc8 HGXc9 HGXc10 HGXc11 HGXc12 HGXc13 HGXc14 HGXc15
          refine (alike_walk 0 0 kd 0 0 wd 0 0 0 0 0 0 0 0 0 0 A3 none 0 c3 0 [] rfl w15 ⟨rfl, Nat.zero_le _, fun hp => absurd hp (by simp)⟩ (Nat.zero_le _) (Kd.C_nil _ _) (Nat.zero_le _)).mono ?_
          rintro e w16 ⟨rfl, hb⟩
          have HB16 := Aside0.mk (below_step HB15.out hb)
          have HLB16 := Aside0.mk (lent_below HLB15.out hb)
          have HRS16 := Aside0.mk (HRS15.out.below hb)
          have HG316 := Aside0.mk ((hb.block _ (blk_lt HG315.out)).trans HG315.out)
          have HGR16 := Aside0.mk ((hb.block _ (blk_lt HGR15.out)).trans HGR15.out)
          have HGT16 := Aside0.mk ((hb.block _ (blk_lt HGT15.out)).trans HGT15.out)
          have HGG16 := Aside0.mk ((hb.block _ (blk_lt HGG15.out)).trans HGG15.out)
          have HGX16 := Aside0.mk ((hb.block _ (blk_lt HGX15.out)).trans HGX15.out)
          clear HB15 HLB15 HRS15 HG315 HGR15 HGT15 HGG15 HGX15 hb
          as_aux_lemma =>
           have HGRc2 : w16.cell? ⟨w4.heap.size + 1, 2, none⟩ = some (.pointer none) := (blk_cell HGR16.out 2).trans rfl
           go_wp2_with fail
           refine (rLeft_dead (.pointer none) w16 (Or.inl rfl)).mono ?_
           rintro e w17 ⟨rfl, hw_⟩
           replace hw_ := hw_.symm
           subst hw_
           go_wp2_with fail
           refine (rEnd_dead (.pointer none) w16 (Or.inl rfl)).mono ?_
           rintro e w18 ⟨rfl, hw_⟩
           replace hw_ := hw_.symm
           subst hw_
           go_wp2_with fail
           refine (rLeft_dead (.pointer none) w16 (Or.inl rfl)).mono ?_
           rintro e w19 ⟨rfl, hw_⟩
           replace hw_ := hw_.symm
           subst hw_
           go_wp2
           go_roundg kq
           case measure => omega
           case rel => exact ⟨j + 1, _, _, _, _, _, _, by first | rfl | simp, ⟨by have := HJ.out; omega⟩, HB16, HLB16, HRS16, HG316, HGR16⟩
        refine two_ (i := 5) (j := 6) (Ni := some 95) (Nj := some 16) #[true, true, true, true, true, true, false, false] #[true, true, true, true, true, false, true, false] rfl rfl rfl rfl (two_of HT_.out (by kernel_rfl)) (by decide) (by decide) (fun K hK => ?_) (fun K hK => ?_)
        · refine goes_ Try.func34 (by kernel_rfl) rfl #[.pointer none, .agg #[.int .i64 t.1, .int .i64 t.kind, .int .u64 t.n, .int .i64 t.i, .int .i64 t.w, .int .u8 (rd t.id 0), .int .u8 (rd t.id 1), .int .u8 (rd t.id 2), .int .u8 (rd t.id 3), .int .u8 (rd t.id 4), .int .u8 (rd t.id 5), .int .u8 (rd t.id 6), .int .u8 (rd t.id 7), .int .i16 t.p.1, .int .i16 t.p.2, .slice A' t.t.length c']] (by rfl) rfl rfl (by (try simp only [List.map_toArray, List.map_cons, List.map_nil]); first | done | rfl) ?_
          refine (tookD_all (.pointer none) w12 (Or.inl rfl) t HTM.out A' c').mono ?_
          rintro e w20 ⟨A3, c3, rfl, hb⟩
          rw [HDD.out]
          refine ⟨_, rfl, ?_⟩
          have HB20 := Aside0.mk (below_step HB12.out hb)
          have HLB20 := Aside0.mk (lent_below HLB12.out hb)
          have HRS20 := Aside0.mk (HRS12.out.below hb)
          have HG320 := Aside0.mk ((hb.block _ (blk_lt HG312.out)).trans HG312.out)
          have HGR20 := Aside0.mk ((hb.block _ (blk_lt HGR12.out)).trans HGR12.out)
          have HGT20 := Aside0.mk ((hb.block _ (blk_lt HGT12.out)).trans HGT12.out)
          clear HB12 HLB12 HRS12 HG312 HGR12 HGT12 hb
          refine hK.out _ _ ⟨(blk_cell HGR20.out 0).trans rfl, (blk_cell HGR20.out 1).trans rfl, (blk_cell HGR20.out 2).trans rfl, (blk_cell HGR20.out 3).trans rfl, (blk_cell HGT20.out 0).trans rfl, (blk_cell HGT20.out 1).trans rfl, (blk_cell HGT20.out 2).trans rfl, (blk_cell HGT20.out 3).trans rfl, (blk_cell HGT20.out 4).trans rfl, (blk_cell HGT20.out 5).trans rfl, (blk_cell HGT20.out 6).trans rfl, (blk_cell HGT20.out 7).trans rfl, (blk_cell HGT20.out 8).trans rfl, (blk_cell HGT20.out 9).trans rfl, (blk_cell HGT20.out 10).trans rfl, (blk_cell HGT20.out 11).trans rfl, (blk_cell HGT20.out 12).trans rfl, (blk_cell HGT20.out 13).trans rfl, (blk_cell HGT20.out 14).trans rfl, (blk_cell HGT20.out 15).trans rfl⟩ (fun hHeld => ?_)
          clear hK K
          refine norm_ (a' := ?_) ?_ ?_
          rotate_left
          · show Act.put _ (some 95) _ = _
            simp only [Act.put, List.setIfInBounds_toArray, List.set_cons_zero, List.set_cons_succ, i64_w, i32_w]
            rfl
          refine one_ (i := 6) (N := some 16) #[true, true, true, true, true, true, true, false] rfl rfl (one_of HT_.out (by kernel_rfl)) (by decide) (fun K hK => ?_)
          refine value_ (v := .pointer (some ⟨w20.heap.size, 0, none⟩)) (w1 := w20.alloc (.cells #[.int .i64 0, .int .i64 0, .int .u64 0, .int .i64 0, .int .i64 0, .int .u8 0, .int .u8 0, .int .u8 0, .int .u8 0, .int .u8 0, .int .u8 0, .int .u8 0, .int .u8 0, .int .i16 0, .int .i16 0, .slice none 0 0] 46)) (by rfl) rfl ?_ ?_
          · first | (go_simp; done) | (go_simp; rfl)
          have hba : Below w20.heap.size w20 (w20.alloc (.cells #[.int .i64 0, .int .i64 0, .int .u64 0, .int .i64 0, .int .i64 0, .int .u8 0, .int .u8 0, .int .u8 0, .int .u8 0, .int .u8 0, .int .u8 0, .int .u8 0, .int .u8 0, .int .i16 0, .int .i16 0, .slice none 0 0] 46)) := below_new _ _
          have HGG21 : Aside0 ((w20.alloc (.cells #[.int .i64 0, .int .i64 0, .int .u64 0, .int .i64 0, .int .i64 0, .int .u8 0, .int .u8 0, .int .u8 0, .int .u8 0, .int .u8 0, .int .u8 0, .int .u8 0, .int .u8 0, .int .i16 0, .int .i16 0, .slice none 0 0] 46)).heap[w20.heap.size]? = some (.cells #[.int .i64 0, .int .i64 0, .int .u64 0, .int .i64 0, .int .i64 0, .int .u8 0, .int .u8 0, .int .u8 0, .int .u8 0, .int .u8 0, .int .u8 0, .int .u8 0, .int .u8 0, .int .i16 0, .int .i16 0, .slice none 0 0] 46 (0, 0))) := ⟨blk_new _ _⟩
          have HTZ : Aside0 (wr.heap.size < w20.heap.size) := ⟨blk_lt HGT20.out⟩
          have HB21 := Aside0.mk (below_step HB20.out hba)
          have HLB21 := Aside0.mk (lent_below HLB20.out hba)
          have HRS21 := Aside0.mk (HRS20.out.below hba)
          have HG321 := Aside0.mk ((hba.block _ (blk_lt HG320.out)).trans HG320.out)
          have HGR21 := Aside0.mk ((hba.block _ (blk_lt HGR20.out)).trans HGR20.out)
          have HGT21 := Aside0.mk ((hba.block _ (blk_lt HGT20.out)).trans HGT20.out)
          clear HB20 HLB20 HRS20 HG320 HGR20 HGT20 hba
          generalize w20.alloc (.cells #[.int .i64 0, .int .i64 0, .int .u64 0, .int .i64 0, .int .i64 0, .int .u8 0, .int .u8 0, .int .u8 0, .int .u8 0, .int .u8 0, .int .u8 0, .int .u8 0, .int .u8 0, .int .i16 0, .int .i16 0, .slice none 0 0] 46) = w21 at HB21 HLB21 HRS21 HG321 HGR21 HGT21 HGG21 ⊢
          refine hK.out _ _ ⟨(blk_cell HGR21.out 0).trans rfl, (blk_cell HGR21.out 1).trans rfl, (blk_cell HGR21.out 2).trans rfl, (blk_cell HGR21.out 3).trans rfl, (blk_cell HGT21.out 0).trans rfl, (blk_cell HGT21.out 1).trans rfl, (blk_cell HGT21.out 2).trans rfl, (blk_cell HGT21.out 3).trans rfl, (blk_cell HGT21.out 4).trans rfl, (blk_cell HGT21.out 5).trans rfl, (blk_cell HGT21.out 6).trans rfl, (blk_cell HGT21.out 7).trans rfl, (blk_cell HGT21.out 8).trans rfl, (blk_cell HGT21.out 9).trans rfl, (blk_cell HGT21.out 10).trans rfl, (blk_cell HGT21.out 11).trans rfl, (blk_cell HGT21.out 12).trans rfl, (blk_cell HGT21.out 13).trans rfl, (blk_cell HGT21.out 14).trans rfl, (blk_cell HGT21.out 15).trans rfl⟩ (fun hHeld => ?_)
          clear hK K
          refine norm_ (a' := ?_) ?_ ?_
          rotate_left
          · show Act.put _ (some 16) _ = _
            simp only [Act.put, List.setIfInBounds_toArray, List.set_cons_zero, List.set_cons_succ, i64_w, i32_w]
            rfl
          exact norm_ (by first | (simp only [putAll, Act.put, List.setIfInBounds_toArray, List.set_cons_zero, List.set_cons_succ]; done) | (simp only [putAll, Act.put, List.setIfInBounds_toArray, List.set_cons_zero, List.set_cons_succ]; rfl)) (hJ (A3, c3, w20.heap.size) _ ⟨HTZ.out, Or.inl rfl, HB21, HLB21, HRS21, HG321, HGR21, HGT21, HGG21⟩)
        · refine value_ (v := .pointer (some ⟨w12.heap.size, 0, none⟩)) (w1 := w12.alloc (.cells #[.int .i64 0, .int .i64 0, .int .u64 0, .int .i64 0, .int .i64 0, .int .u8 0, .int .u8 0, .int .u8 0, .int .u8 0, .int .u8 0, .int .u8 0, .int .u8 0, .int .u8 0, .int .i16 0, .int .i16 0, .slice none 0 0] 46)) (by rfl) rfl ?_ ?_
          · first | (go_simp; done) | (go_simp; rfl)
          have hba : Below w12.heap.size w12 (w12.alloc (.cells #[.int .i64 0, .int .i64 0, .int .u64 0, .int .i64 0, .int .i64 0, .int .u8 0, .int .u8 0, .int .u8 0, .int .u8 0, .int .u8 0, .int .u8 0, .int .u8 0, .int .u8 0, .int .i16 0, .int .i16 0, .slice none 0 0] 46)) := below_new _ _
          have HGG20 : Aside0 ((w12.alloc (.cells #[.int .i64 0, .int .i64 0, .int .u64 0, .int .i64 0, .int .i64 0, .int .u8 0, .int .u8 0, .int .u8 0, .int .u8 0, .int .u8 0, .int .u8 0, .int .u8 0, .int .u8 0, .int .i16 0, .int .i16 0, .slice none 0 0] 46)).heap[w12.heap.size]? = some (.cells #[.int .i64 0, .int .i64 0, .int .u64 0, .int .i64 0, .int .i64 0, .int .u8 0, .int .u8 0, .int .u8 0, .int .u8 0, .int .u8 0, .int .u8 0, .int .u8 0, .int .u8 0, .int .i16 0, .int .i16 0, .slice none 0 0] 46 (0, 0))) := ⟨blk_new _ _⟩
          have HTZ : Aside0 (wr.heap.size < w12.heap.size) := ⟨blk_lt HGT12.out⟩
          have HB20 := Aside0.mk (below_step HB12.out hba)
          have HLB20 := Aside0.mk (lent_below HLB12.out hba)
          have HRS20 := Aside0.mk (HRS12.out.below hba)
          have HG320 := Aside0.mk ((hba.block _ (blk_lt HG312.out)).trans HG312.out)
          have HGR20 := Aside0.mk ((hba.block _ (blk_lt HGR12.out)).trans HGR12.out)
          have HGT20 := Aside0.mk ((hba.block _ (blk_lt HGT12.out)).trans HGT12.out)
          clear HB12 HLB12 HRS12 HG312 HGR12 HGT12 hba
          generalize w12.alloc (.cells #[.int .i64 0, .int .i64 0, .int .u64 0, .int .i64 0, .int .i64 0, .int .u8 0, .int .u8 0, .int .u8 0, .int .u8 0, .int .u8 0, .int .u8 0, .int .u8 0, .int .u8 0, .int .i16 0, .int .i16 0, .slice none 0 0] 46) = w20 at HB20 HLB20 HRS20 HG320 HGR20 HGT20 HGG20 ⊢
          refine hK.out _ _ ⟨(blk_cell HGR20.out 0).trans rfl, (blk_cell HGR20.out 1).trans rfl, (blk_cell HGR20.out 2).trans rfl, (blk_cell HGR20.out 3).trans rfl, (blk_cell HGT20.out 0).trans rfl, (blk_cell HGT20.out 1).trans rfl, (blk_cell HGT20.out 2).trans rfl, (blk_cell HGT20.out 3).trans rfl, (blk_cell HGT20.out 4).trans rfl, (blk_cell HGT20.out 5).trans rfl, (blk_cell HGT20.out 6).trans rfl, (blk_cell HGT20.out 7).trans rfl, (blk_cell HGT20.out 8).trans rfl, (blk_cell HGT20.out 9).trans rfl, (blk_cell HGT20.out 10).trans rfl, (blk_cell HGT20.out 11).trans rfl, (blk_cell HGT20.out 12).trans rfl, (blk_cell HGT20.out 13).trans rfl, (blk_cell HGT20.out 14).trans rfl, (blk_cell HGT20.out 15).trans rfl⟩ (fun hHeld => ?_)
          clear hK K
          refine norm_ (a' := ?_) ?_ ?_
          rotate_left
          · show Act.put _ (some 16) _ = _
            simp only [Act.put, List.setIfInBounds_toArray, List.set_cons_zero, List.set_cons_succ, i64_w, i32_w]
            rfl
          have HTW : Aside0 (w12.heap.size < w20.heap.size) := ⟨blk_lt HGG20.out⟩
          refine one_ (i := 5) (N := some 95) #[true, true, true, true, true, true, true, false] rfl rfl (one_of HT_.out (by kernel_rfl)) (by decide) (fun K hK => ?_)
          refine goes_ Try.func34 (by kernel_rfl) rfl #[.pointer none, .agg #[.int .i64 t.1, .int .i64 t.kind, .int .u64 t.n, .int .i64 t.i, .int .i64 t.w, .int .u8 (rd t.id 0), .int .u8 (rd t.id 1), .int .u8 (rd t.id 2), .int .u8 (rd t.id 3), .int .u8 (rd t.id 4), .int .u8 (rd t.id 5), .int .u8 (rd t.id 6), .int .u8 (rd t.id 7), .int .i16 t.p.1, .int .i16 t.p.2, .slice A' t.t.length c']] (by rfl) rfl rfl (by (try simp only [List.map_toArray, List.map_cons, List.map_nil]); first | done | rfl) ?_
          refine (tookD_all (.pointer none) w20 (Or.inl rfl) t HTM.out A' c').mono ?_
          rintro e w21 ⟨A3, c3, rfl, hb⟩
          rw [HDD.out]
          refine ⟨_, rfl, ?_⟩
          have HB21 := Aside0.mk (below_step HB20.out hb)
          have HLB21 := Aside0.mk (lent_below HLB20.out hb)
          have HRS21 := Aside0.mk (HRS20.out.below hb)
          have HG321 := Aside0.mk ((hb.block _ (blk_lt HG320.out)).trans HG320.out)
          have HGR21 := Aside0.mk ((hb.block _ (blk_lt HGR20.out)).trans HGR20.out)
          have HGT21 := Aside0.mk ((hb.block _ (blk_lt HGT20.out)).trans HGT20.out)
          have HGG21 := Aside0.mk ((hb.block _ (blk_lt HGG20.out)).trans HGG20.out)
          clear HB20 HLB20 HRS20 HG320 HGR20 HGT20 HGG20 hb
          refine hK.out _ _ ⟨(blk_cell HGR21.out 0).trans rfl, (blk_cell HGR21.out 1).trans rfl, (blk_cell HGR21.out 2).trans rfl, (blk_cell HGR21.out 3).trans rfl, (blk_cell HGT21.out 0).trans rfl, (blk_cell HGT21.out 1).trans rfl, (blk_cell HGT21.out 2).trans rfl, (blk_cell HGT21.out 3).trans rfl, (blk_cell HGT21.out 4).trans rfl, (blk_cell HGT21.out 5).trans rfl, (blk_cell HGT21.out 6).trans rfl, (blk_cell HGT21.out 7).trans rfl, (blk_cell HGT21.out 8).trans rfl, (blk_cell HGT21.out 9).trans rfl, (blk_cell HGT21.out 10).trans rfl, (blk_cell HGT21.out 11).trans rfl, (blk_cell HGT21.out 12).trans rfl, (blk_cell HGT21.out 13).trans rfl, (blk_cell HGT21.out 14).trans rfl, (blk_cell HGT21.out 15).trans rfl⟩ (fun hHeld => ?_)
          clear hK K
          refine norm_ (a' := ?_) ?_ ?_
          rotate_left
          · show Act.put _ (some 95) _ = _
            simp only [Act.put, List.setIfInBounds_toArray, List.set_cons_zero, List.set_cons_succ, i64_w, i32_w]
            rfl
          exact norm_ (by first | (simp only [putAll, Act.put, List.setIfInBounds_toArray, List.set_cons_zero, List.set_cons_succ]; done) | (simp only [putAll, Act.put, List.setIfInBounds_toArray, List.set_cons_zero, List.set_cons_succ]; rfl)) (hJ (A3, c3, w12.heap.size) _ ⟨HTZ.out, Or.inl rfl, HB21, HLB21, HRS21, HG321, HGR21, HGT21, HGG21⟩)
     · as_aux_lemma =>
        obtain ⟨kd, wd, hd⟩ : ∃ kd wd, dead t = (0, kd, 0, 0, wd, zero8, (0, 0), []) := ⟨_, _, rfl⟩
        have HDD : Aside0 (∀ (A : Option Addr) (c : Nat), thingOf (dead t) A c = #[.int .i64 0, .int .i64 kd, .int .u64 0, .int .i64 0, .int .i64 wd, .int .u8 0, .int .u8 0, .int .u8 0, .int .u8 0, .int .u8 0, .int .u8 0, .int .u8 0, .int .u8 0, .int .i16 0, .int .i16 0, .slice A 0 c]) := ⟨fun A c => by rw [hd]; rfl⟩
        clear hd
        go_wp2_with fail
        have hbd : Below w11.heap.size w11 w11.drew := below_drew1 (Below.refl _ _)
        have HB12 := Aside0.mk (below_step HB11.out hbd)
        have HLB12 := Aside0.mk (lent_below HLB11.out hbd)
        have HRS12 := Aside0.mk (HRS11.out.below hbd)
        have HG312 := Aside0.mk ((hbd.block _ (blk_lt HG311.out)).trans HG311.out)
        have HGR12 := Aside0.mk ((hbd.block _ (blk_lt HGR11.out)).trans HGR11.out)
        have HGT12 := Aside0.mk ((hbd.block _ (blk_lt HGT11.out)).trans HGT11.out)
        clear HB11 HLB11 HRS11 HG311 HGR11 HGT11 hbd
        refine start_ (n := 8) (S := fun w' => w'.cell? ⟨w4.heap.size + 1, 0, none⟩ = some (.pointer (some ⟨r0, 0, none⟩)) ∧ w'.cell? ⟨w4.heap.size + 1, 1, none⟩ = some (.pointer (some ⟨r1, 0, none⟩)) ∧ w'.cell? ⟨w4.heap.size + 1, 2, none⟩ = some (.pointer none) ∧ w'.cell? ⟨w4.heap.size + 1, 3, none⟩ = some (.pointer (some ⟨w4.heap.size, 0, none⟩)) ∧ w'.cell? ⟨wr.heap.size, 0, none⟩ = some (.int .i64 t.1) ∧ w'.cell? ⟨wr.heap.size, 1, none⟩ = some (.int .i64 t.kind) ∧ w'.cell? ⟨wr.heap.size, 2, none⟩ = some (.int .u64 t.n) ∧ w'.cell? ⟨wr.heap.size, 3, none⟩ = some (.int .i64 t.i) ∧ w'.cell? ⟨wr.heap.size, 4, none⟩ = some (.int .i64 t.w) ∧ w'.cell? ⟨wr.heap.size, 5, none⟩ = some (.int .u8 (rd t.id 0)) ∧ w'.cell? ⟨wr.heap.size, 6, none⟩ = some (.int .u8 (rd t.id 1)) ∧ w'.cell? ⟨wr.heap.size, 7, none⟩ = some (.int .u8 (rd t.id 2)) ∧ w'.cell? ⟨wr.heap.size, 8, none⟩ = some (.int .u8 (rd t.id 3)) ∧ w'.cell? ⟨wr.heap.size, 9, none⟩ = some (.int .u8 (rd t.id 4)) ∧ w'.cell? ⟨wr.heap.size, 10, none⟩ = some (.int .u8 (rd t.id 5)) ∧ w'.cell? ⟨wr.heap.size, 11, none⟩ = some (.int .u8 (rd t.id 6)) ∧ w'.cell? ⟨wr.heap.size, 12, none⟩ = some (.int .u8 (rd t.id 7)) ∧ w'.cell? ⟨wr.heap.size, 13, none⟩ = some (.int .i16 t.p.1) ∧ w'.cell? ⟨wr.heap.size, 14, none⟩ = some (.int .i16 t.p.2) ∧ w'.cell? ⟨wr.heap.size, 15, none⟩ = some (.slice A' t.t.length c')) (ds := []) #[false, false, false, false, false, false, false, false] (by kernel_rfl) rfl rfl ⟨(blk_cell HGR12.out 0).trans rfl, (blk_cell HGR12.out 1).trans rfl, (blk_cell HGR12.out 2).trans rfl, (blk_cell HGR12.out 3).trans rfl, (blk_cell HGT12.out 0).trans rfl, (blk_cell HGT12.out 1).trans rfl, (blk_cell HGT12.out 2).trans rfl, (blk_cell HGT12.out 3).trans rfl, (blk_cell HGT12.out 4).trans rfl, (blk_cell HGT12.out 5).trans rfl, (blk_cell HGT12.out 6).trans rfl, (blk_cell HGT12.out 7).trans rfl, (blk_cell HGT12.out 8).trans rfl, (blk_cell HGT12.out 9).trans rfl, (blk_cell HGT12.out 10).trans rfl, (blk_cell HGT12.out 11).trans rfl, (blk_cell HGT12.out 12).trans rfl, (blk_cell HGT12.out 13).trans rfl, (blk_cell HGT12.out 14).trans rfl, (blk_cell HGT12.out 15).trans rfl⟩ (fun hHeld => ?_)
        refine with_tabW reads_tab19 reads_bits19 (fun HT_ HW_ => ?_)
        generalize w11.drew = w12 at HB12 HLB12 HRS12 HG312 HGR12 HGT12 hHeld ⊢
        refine pure_ (i := 0) (N := some 90) (v := ?_) (a' := ?_) #[true, false, false, false, false, false, false, false] rfl rfl (any_of HT_.out (by kernel_rfl)) (fun _ _ _ h => h) (Or.inl ⟨by rfl, ?_⟩) ?_ ?_
        rotate_left
        · intro w'
          go_simp
          with_reducible rfl
        rotate_left
        · simp only [Act.put, List.setIfInBounds_toArray, List.set_cons_zero, List.set_cons_succ, i64_w, i32_w]
          rfl
        refine pure_ (i := 1) (N := some 91) (v := ?_) (a' := ?_) #[true, true, false, false, false, false, false, false] rfl rfl (any_of HT_.out (by kernel_rfl)) (fun _ _ _ h => h) (Or.inl ⟨by rfl, ?_⟩) ?_ ?_
        rotate_left
        · intro w'
          go_simp
          with_reducible rfl
        rotate_left
        · simp only [Act.put, List.setIfInBounds_toArray, List.set_cons_zero, List.set_cons_succ, i64_w, i32_w]
          rfl
        refine pure_ (i := 2) (N := some 92) (v := ?_) (a' := ?_) #[true, true, true, false, false, false, false, false] rfl rfl (any_of HT_.out (by kernel_rfl)) (fun _ _ _ h => h) (Or.inl ⟨by rfl, ?_⟩) ?_ ?_
        rotate_left
        · intro w'
          go_simp
          with_reducible rfl
        rotate_left
        · simp only [Act.put, List.setIfInBounds_toArray, List.set_cons_zero, List.set_cons_succ, i64_w, i32_w]
          rfl
        refine take_ (i := 3) (N := some 93) (v := ?_) (a' := ?_) #[true, true, true, true, false, false, false, false] rfl rfl (take_ofW HT_.out HW_.out (by kernel_rfl)) (fun _ _ _ h => h) (Or.inl ⟨by rfl, ?_⟩) hHeld ?_ ?_
        rotate_left
        · rintro w' ⟨s0, s1, s2, s3, s4, s5, s6, s7, s8, s9, s10, s11, s12, s13, s14, s15, s16, s17, s18, s19⟩
          go_simp
          with_reducible rfl
        rotate_left
        · simp only [Act.put, List.setIfInBounds_toArray, List.set_cons_zero, List.set_cons_succ, i64_w, i32_w]
          rfl
        refine take_ (i := 4) (N := some 94) (v := ?_) (a' := ?_) #[true, true, true, true, true, false, false, false] rfl rfl (take_ofW HT_.out HW_.out (by kernel_rfl)) (fun _ _ _ h => h) (Or.inl ⟨by rfl, ?_⟩) hHeld ?_ ?_
        rotate_left
        · rintro w' ⟨s0, s1, s2, s3, s4, s5, s6, s7, s8, s9, s10, s11, s12, s13, s14, s15, s16, s17, s18, s19⟩
          go_simp
          with_reducible rfl
        rotate_left
        · simp only [Act.put, List.setIfInBounds_toArray, List.set_cons_zero, List.set_cons_succ, i64_w, i32_w]
          rfl
        refine join_ (σ := Option Addr × Nat × Nat) 1 #[true, true, true, true, true, true, true, false] (fun s => [(95, .agg #[.int .i64 0, .int .i64 kd, .int .u64 0, .int .i64 0, .int .i64 wd, .int .u8 0, .int .u8 0, .int .u8 0, .int .u8 0, .int .u8 0, .int .u8 0, .int .u8 0, .int .u8 0, .int .i16 0, .int .i16 0, .slice s.1 0 s.2.1]), (16, .pointer (some ⟨s.2.2, 0, none⟩))]) (fun s w' => match s with | (A3, c3, gt) => wr.heap.size < gt ∧ (([] : List Int) = [] ∨ ∀ a, A3 = some a → a.block ≠ gt) ∧ Aside0 (Below w.heap.size w w') ∧ Aside0 (Lent w' w1.heap.size gb cb two) ∧ Aside0 (RS w' w2.heap.size w4.heap.size r0 r1 w7.heap.size gb0 gb1 (va) (la) (ea) (vb) (lb) (eb) (la) (ea) (lb) (eb)) ∧ Aside0 (w'.heap[w4.heap.size]? = some (.cells #[.slice none 0 0, .int .i64 0, .bool false] 65 (0, 0))) ∧ Aside0 (w'.heap[w4.heap.size + 1]? = some (.cells #[.pointer (some ⟨r0, 0, none⟩), .pointer (some ⟨r1, 0, none⟩), .pointer none, .pointer (some ⟨w4.heap.size, 0, none⟩)] 55 (0, 0))) ∧ Aside0 (w'.heap[wr.heap.size]? = some (.cells #[.int .i64 t.1, .int .i64 t.kind, .int .u64 t.n, .int .i64 t.i, .int .i64 t.w, .int .u8 (rd t.id 0), .int .u8 (rd t.id 1), .int .u8 (rd t.id 2), .int .u8 (rd t.id 3), .int .u8 (rd t.id 4), .int .u8 (rd t.id 5), .int .u8 (rd t.id 6), .int .u8 (rd t.id 7), .int .i16 t.p.1, .int .i16 t.p.2, .slice A' t.t.length c'] 46 (0, 0))) ∧ Aside0 (w'.heap[gt]? = some (.cells #[.int .i64 0, .int .i64 0, .int .u64 0, .int .i64 0, .int .i64 0, .int .u8 0, .int .u8 0, .int .u8 0, .int .u8 0, .int .u8 0, .int .u8 0, .int .u8 0, .int .u8 0, .int .i16 0, .int .i16 0, .slice none 0 0] 46 (0, 0)))) ?cont (fun hJ => ?_)
        case cont =>
         rintro ⟨A3, c3, gt⟩ w13 ⟨hgt, hte, HB13, HLB13, HRS13, HG313, HGR13, HGT13, HGG13⟩
         have HTG : Aside0 (wr.heap.size < gt) := ⟨hgt⟩
         have HTE : Aside0 (([] : List Int) = [] ∨ ∀ a, A3 = some a → a.block ≠ gt) := ⟨hte⟩
         clear hgt hte hHeld HB12 HLB12 HRS12 HG312 HGR12 HGT12
         refine norm_ (a' := ?_) ?_ ?_
         rotate_left
         · simp only [putAll, Act.put, List.setIfInBounds_toArray, List.set_cons_zero, List.set_cons_succ]
           rfl
         refine one_ (i := 7) (N := none) #[true, true, true, true, true, true, true, true] rfl rfl (one_of HT_.out (by kernel_rfl)) (by decide) (fun K hK => ?_)
         refine rowstore_ (by rfl) rfl 46 (.tmp 16) (.tmp 95) rfl (gt) #[.int .i64 0, .int .i64 kd, .int .u64 0, .int .i64 0, .int .i64 wd, .int .u8 0, .int .u8 0, .int .u8 0, .int .u8 0, .int .u8 0, .int .u8 0, .int .u8 0, .int .u8 0, .int .i16 0, .int .i16 0, .slice A3 0 c3] (by rfl) (by rfl) _ _ HGG13.out infoTh rfl (by simp [Value.oneCell']) ?_
         have hs := chg_row (cs := #[.int .i64 0, .int .i64 kd, .int .u64 0, .int .i64 0, .int .i64 wd, .int .u8 0, .int .u8 0, .int .u8 0, .int .u8 0, .int .u8 0, .int .u8 0, .int .u8 0, .int .u8 0, .int .i16 0, .int .i16 0, .slice A3 0 c3]) HGG13.out
         generalize w13.setRow (gt) #[.int .i64 0, .int .i64 kd, .int .u64 0, .int .i64 0, .int .i64 wd, .int .u8 0, .int .u8 0, .int .u8 0, .int .u8 0, .int .u8 0, .int .u8 0, .int .u8 0, .int .u8 0, .int .i16 0, .int .i16 0, .slice A3 0 c3] = w14 at hs ⊢
         have HB14 : Aside0 (Below w.heap.size w w14) := ⟨HB13.out.trans (hs.2.below HB13.out.size (fun i hi => by have e : i = gt := hi; have := HNN.out; have := HTN.out; have := HTG.out; omega))⟩
         have HLB14 := Aside0.mk (lent_keep HLB13.out hs.2 (fun e => by have e' : gb = gt := e; have := HNN.out; have := HTN.out; have := HTG.out; omega))
         have HRS14 := Aside0.mk (HRS13.out.cell hs.2 (by have := HNN.out; have := HTN.out; have := HTG.out; omega) (by refine ⟨?_, ?_, ?_⟩ <;> (have := HNN.out; have := HTN.out; have := HTG.out; omega)))
         have HG314 := Aside0.mk (hs.2.heap HG313.out (fun e => by have e' : w4.heap.size = gt := e; have := HNN.out; have := HTN.out; have := HTG.out; omega))
         have HGR14 := Aside0.mk (hs.2.heap HGR13.out (fun e => by have e' : w4.heap.size + 1 = gt := e; have := HNN.out; have := HTN.out; have := HTG.out; omega))
         have HGT14 := Aside0.mk (hs.2.heap HGT13.out (fun e => by have e' : wr.heap.size = gt := e; have := HNN.out; have := HTN.out; have := HTG.out; omega))
         have HGG14 := Aside0.mk (hs.1)
         clear HB13 HLB13 HRS13 HG313 HGR13 HGT13 HGG13
         clear hs
         refine hK.out _ _ ⟨(blk_cell HGR14.out 0).trans rfl, (blk_cell HGR14.out 1).trans rfl, (blk_cell HGR14.out 2).trans rfl, (blk_cell HGR14.out 3).trans rfl, (blk_cell HGT14.out 0).trans rfl, (blk_cell HGT14.out 1).trans rfl, (blk_cell HGT14.out 2).trans rfl, (blk_cell HGT14.out 3).trans rfl, (blk_cell HGT14.out 4).trans rfl, (blk_cell HGT14.out 5).trans rfl, (blk_cell HGT14.out 6).trans rfl, (blk_cell HGT14.out 7).trans rfl, (blk_cell HGT14.out 8).trans rfl, (blk_cell HGT14.out 9).trans rfl, (blk_cell HGT14.out 10).trans rfl, (blk_cell HGT14.out 11).trans rfl, (blk_cell HGT14.out 12).trans rfl, (blk_cell HGT14.out 13).trans rfl, (blk_cell HGT14.out 14).trans rfl, (blk_cell HGT14.out 15).trans rfl⟩ (fun hHeld => ?_)
         clear hK K
         refine done_ (done_of HT_.out (by kernel_rfl)) ?_
         clear hHeld HT_ HW_
         have HGGc1 : w14.cell? ⟨gt, 1, none⟩ = some (.int .i64 kd) := (blk_cell HGG14.out 1).trans rfl
         have HGGc4 : w14.cell? ⟨gt, 4, none⟩ = some (.int .i64 wd) := (blk_cell HGG14.out 4).trans rfl
         go_upto_region 23 with (fail)
         clear HGGc1 HGGc4
         have hba : Below w14.heap.size w14 (w14.alloc (.cells #[.int .i64 0, .int .i64 kd, .int .u64 0, .int .i64 0, .int .i64 wd, .int .u8 0, .int .u8 0, .int .u8 0, .int .u8 0, .int .u8 0, .int .u8 0, .int .u8 0, .int .u8 0, .int .i16 0, .int .i16 0, .slice none 0 0] 46)) := below_new _ _
         have HGX15 : Aside0 ((w14.alloc (.cells #[.int .i64 0, .int .i64 kd, .int .u64 0, .int .i64 0, .int .i64 wd, .int .u8 0, .int .u8 0, .int .u8 0, .int .u8 0, .int .u8 0, .int .u8 0, .int .u8 0, .int .u8 0, .int .i16 0, .int .i16 0, .slice none 0 0] 46)).heap[w14.heap.size]? = some (.cells #[.int .i64 0, .int .i64 kd, .int .u64 0, .int .i64 0, .int .i64 wd, .int .u8 0, .int .u8 0, .int .u8 0, .int .u8 0, .int .u8 0, .int .u8 0, .int .u8 0, .int .u8 0, .int .i16 0, .int .i16 0, .slice none 0 0] 46 (0, 0))) := ⟨blk_new _ _⟩
         have HTZ : Aside0 (gt < w14.heap.size ∧ wr.heap.size < w14.heap.size ∧ gb0 < w14.heap.size ∧ gb1 < w14.heap.size) := ⟨blk_lt HGG14.out, blk_lt HGT14.out, HRS14.out.n.2.2.2⟩
         have HB15 := Aside0.mk (below_step HB14.out hba)
         have HLB15 := Aside0.mk (lent_below HLB14.out hba)
         have HRS15 := Aside0.mk (HRS14.out.below hba)
         have HG315 := Aside0.mk ((hba.block _ (blk_lt HG314.out)).trans HG314.out)
         have HGR15 := Aside0.mk ((hba.block _ (blk_lt HGR14.out)).trans HGR14.out)
         have HGT15 := Aside0.mk ((hba.block _ (blk_lt HGT14.out)).trans HGT14.out)
         have HGG15 := Aside0.mk ((hba.block _ (blk_lt HGG14.out)).trans HGG14.out)
         clear HB14 HLB14 HRS14 HG314 HGR14 HGT14 HGG14 hba
         generalize w14.alloc (.cells #[.int .i64 0, .int .i64 kd, .int .u64 0, .int .i64 0, .int .i64 wd, .int .u8 0, .int .u8 0, .int .u8 0, .int .u8 0, .int .u8 0, .int .u8 0, .int .u8 0, .int .u8 0, .int .i16 0, .int .i16 0, .slice none 0 0] 46) = w15 at HB15 HLB15 HRS15 HG315 HGR15 HGT15 HGG15 HGX15 ⊢
         as_aux_lemma =>
          obtain ⟨HGGc0, HGGc1, HGGc2, HGGc3, HGGc4, HGGc5, HGGc6, HGGc7, HGGc8, HGGc9, HGGc10, HGGc11, HGGc12, HGGc13, HGGc14, HGGc15⟩ := cells16 HGG15.out
          obtain ⟨HGXc0, HGXc1, HGXc2, HGXc3, HGXc4, HGXc5, HGXc6, HGXc7, HGXc8, HGXc9, HGXc10, HGXc11, HGXc12, HGXc13, HGXc14, HGXc15⟩ := cells16 HGX15.out
          go_wp2_with fail
          clear HGGc0 HGGc1 HGGc2 HGGc3 HGGc4 HGGc5 HGGc6 HGGc7 HGGc8 HGGc9 HGGc10 HGGc11 HGGc12 HGGc13 HGGc14 HGGc15
          clear HGXc0 HGXc1 HGXc2 HGXc3 HGXc4 HGXc5 HGXc6 HGXc7 HGXc8 HGXc9 HGXc10 HGXc11 HGXc12 HGXc13 HGXc14 HGXc15
          refine (alike_walk 0 0 kd 0 0 wd 0 0 0 0 0 0 0 0 0 0 A3 none 0 c3 0 [] rfl w15 ⟨rfl, Nat.zero_le _, fun hp => absurd hp (by simp)⟩ (Nat.zero_le _) (Kd.C_nil _ _) (Nat.zero_le _)).mono ?_
          rintro e w16 ⟨rfl, hb⟩
          have HB16 := Aside0.mk (below_step HB15.out hb)
          have HLB16 := Aside0.mk (lent_below HLB15.out hb)
          have HRS16 := Aside0.mk (HRS15.out.below hb)
          have HG316 := Aside0.mk ((hb.block _ (blk_lt HG315.out)).trans HG315.out)
          have HGR16 := Aside0.mk ((hb.block _ (blk_lt HGR15.out)).trans HGR15.out)
          have HGT16 := Aside0.mk ((hb.block _ (blk_lt HGT15.out)).trans HGT15.out)
          have HGG16 := Aside0.mk ((hb.block _ (blk_lt HGG15.out)).trans HGG15.out)
          have HGX16 := Aside0.mk ((hb.block _ (blk_lt HGX15.out)).trans HGX15.out)
          clear HB15 HLB15 HRS15 HG315 HGR15 HGT15 HGG15 HGX15 hb
          as_aux_lemma =>
           have HGRc3 : w16.cell? ⟨w4.heap.size + 1, 3, none⟩ = some (.pointer (some ⟨w4.heap.size, 0, none⟩)) := (blk_cell HGR16.out 3).trans rfl
           go_wp2_with fail
           refine (rLeft_dead (.pointer (some ⟨w4.heap.size, 0, none⟩)) w16 (Or.inr ⟨w4.heap.size, rfl, HG316.out⟩)).mono ?_
           rintro e w17 ⟨rfl, hw_⟩
           replace hw_ := hw_.symm
           subst hw_
           go_wp2_with fail
           refine (rEnd_dead (.pointer (some ⟨w4.heap.size, 0, none⟩)) w16 (Or.inr ⟨w4.heap.size, rfl, HG316.out⟩)).mono ?_
           rintro e w18 ⟨rfl, hw_⟩
           replace hw_ := hw_.symm
           subst hw_
           go_wp2_with fail
           refine (rLeft_dead (.pointer (some ⟨w4.heap.size, 0, none⟩)) w16 (Or.inr ⟨w4.heap.size, rfl, HG316.out⟩)).mono ?_
           rintro e w19 ⟨rfl, hw_⟩
           replace hw_ := hw_.symm
           subst hw_
           go_wp2
           go_roundg kq
           case measure => omega
           case rel => exact ⟨j + 1, _, _, _, _, _, _, by first | rfl | simp, ⟨by have := HJ.out; omega⟩, HB16, HLB16, HRS16, HG316, HGR16⟩
        refine two_ (i := 5) (j := 6) (Ni := some 95) (Nj := some 16) #[true, true, true, true, true, true, false, false] #[true, true, true, true, true, false, true, false] rfl rfl rfl rfl (two_of HT_.out (by kernel_rfl)) (by decide) (by decide) (fun K hK => ?_) (fun K hK => ?_)
        · refine goes_ Try.func34 (by kernel_rfl) rfl #[.pointer (some ⟨w4.heap.size, 0, none⟩), .agg #[.int .i64 t.1, .int .i64 t.kind, .int .u64 t.n, .int .i64 t.i, .int .i64 t.w, .int .u8 (rd t.id 0), .int .u8 (rd t.id 1), .int .u8 (rd t.id 2), .int .u8 (rd t.id 3), .int .u8 (rd t.id 4), .int .u8 (rd t.id 5), .int .u8 (rd t.id 6), .int .u8 (rd t.id 7), .int .i16 t.p.1, .int .i16 t.p.2, .slice A' t.t.length c']] (by rfl) rfl rfl (by (try simp only [List.map_toArray, List.map_cons, List.map_nil]); first | done | rfl) ?_
          refine (tookD_all (.pointer (some ⟨w4.heap.size, 0, none⟩)) w12 (Or.inr ⟨w4.heap.size, rfl, HG312.out⟩) t HTM.out A' c').mono ?_
          rintro e w20 ⟨A3, c3, rfl, hb⟩
          rw [HDD.out]
          refine ⟨_, rfl, ?_⟩
          have HB20 := Aside0.mk (below_step HB12.out hb)
          have HLB20 := Aside0.mk (lent_below HLB12.out hb)
          have HRS20 := Aside0.mk (HRS12.out.below hb)
          have HG320 := Aside0.mk ((hb.block _ (blk_lt HG312.out)).trans HG312.out)
          have HGR20 := Aside0.mk ((hb.block _ (blk_lt HGR12.out)).trans HGR12.out)
          have HGT20 := Aside0.mk ((hb.block _ (blk_lt HGT12.out)).trans HGT12.out)
          clear HB12 HLB12 HRS12 HG312 HGR12 HGT12 hb
          refine hK.out _ _ ⟨(blk_cell HGR20.out 0).trans rfl, (blk_cell HGR20.out 1).trans rfl, (blk_cell HGR20.out 2).trans rfl, (blk_cell HGR20.out 3).trans rfl, (blk_cell HGT20.out 0).trans rfl, (blk_cell HGT20.out 1).trans rfl, (blk_cell HGT20.out 2).trans rfl, (blk_cell HGT20.out 3).trans rfl, (blk_cell HGT20.out 4).trans rfl, (blk_cell HGT20.out 5).trans rfl, (blk_cell HGT20.out 6).trans rfl, (blk_cell HGT20.out 7).trans rfl, (blk_cell HGT20.out 8).trans rfl, (blk_cell HGT20.out 9).trans rfl, (blk_cell HGT20.out 10).trans rfl, (blk_cell HGT20.out 11).trans rfl, (blk_cell HGT20.out 12).trans rfl, (blk_cell HGT20.out 13).trans rfl, (blk_cell HGT20.out 14).trans rfl, (blk_cell HGT20.out 15).trans rfl⟩ (fun hHeld => ?_)
          clear hK K
          refine norm_ (a' := ?_) ?_ ?_
          rotate_left
          · show Act.put _ (some 95) _ = _
            simp only [Act.put, List.setIfInBounds_toArray, List.set_cons_zero, List.set_cons_succ, i64_w, i32_w]
            rfl
          refine one_ (i := 6) (N := some 16) #[true, true, true, true, true, true, true, false] rfl rfl (one_of HT_.out (by kernel_rfl)) (by decide) (fun K hK => ?_)
          refine value_ (v := .pointer (some ⟨w20.heap.size, 0, none⟩)) (w1 := w20.alloc (.cells #[.int .i64 0, .int .i64 0, .int .u64 0, .int .i64 0, .int .i64 0, .int .u8 0, .int .u8 0, .int .u8 0, .int .u8 0, .int .u8 0, .int .u8 0, .int .u8 0, .int .u8 0, .int .i16 0, .int .i16 0, .slice none 0 0] 46)) (by rfl) rfl ?_ ?_
          · first | (go_simp; done) | (go_simp; rfl)
          have hba : Below w20.heap.size w20 (w20.alloc (.cells #[.int .i64 0, .int .i64 0, .int .u64 0, .int .i64 0, .int .i64 0, .int .u8 0, .int .u8 0, .int .u8 0, .int .u8 0, .int .u8 0, .int .u8 0, .int .u8 0, .int .u8 0, .int .i16 0, .int .i16 0, .slice none 0 0] 46)) := below_new _ _
          have HGG21 : Aside0 ((w20.alloc (.cells #[.int .i64 0, .int .i64 0, .int .u64 0, .int .i64 0, .int .i64 0, .int .u8 0, .int .u8 0, .int .u8 0, .int .u8 0, .int .u8 0, .int .u8 0, .int .u8 0, .int .u8 0, .int .i16 0, .int .i16 0, .slice none 0 0] 46)).heap[w20.heap.size]? = some (.cells #[.int .i64 0, .int .i64 0, .int .u64 0, .int .i64 0, .int .i64 0, .int .u8 0, .int .u8 0, .int .u8 0, .int .u8 0, .int .u8 0, .int .u8 0, .int .u8 0, .int .u8 0, .int .i16 0, .int .i16 0, .slice none 0 0] 46 (0, 0))) := ⟨blk_new _ _⟩
          have HTZ : Aside0 (wr.heap.size < w20.heap.size) := ⟨blk_lt HGT20.out⟩
          have HB21 := Aside0.mk (below_step HB20.out hba)
          have HLB21 := Aside0.mk (lent_below HLB20.out hba)
          have HRS21 := Aside0.mk (HRS20.out.below hba)
          have HG321 := Aside0.mk ((hba.block _ (blk_lt HG320.out)).trans HG320.out)
          have HGR21 := Aside0.mk ((hba.block _ (blk_lt HGR20.out)).trans HGR20.out)
          have HGT21 := Aside0.mk ((hba.block _ (blk_lt HGT20.out)).trans HGT20.out)
          clear HB20 HLB20 HRS20 HG320 HGR20 HGT20 hba
          generalize w20.alloc (.cells #[.int .i64 0, .int .i64 0, .int .u64 0, .int .i64 0, .int .i64 0, .int .u8 0, .int .u8 0, .int .u8 0, .int .u8 0, .int .u8 0, .int .u8 0, .int .u8 0, .int .u8 0, .int .i16 0, .int .i16 0, .slice none 0 0] 46) = w21 at HB21 HLB21 HRS21 HG321 HGR21 HGT21 HGG21 ⊢
          refine hK.out _ _ ⟨(blk_cell HGR21.out 0).trans rfl, (blk_cell HGR21.out 1).trans rfl, (blk_cell HGR21.out 2).trans rfl, (blk_cell HGR21.out 3).trans rfl, (blk_cell HGT21.out 0).trans rfl, (blk_cell HGT21.out 1).trans rfl, (blk_cell HGT21.out 2).trans rfl, (blk_cell HGT21.out 3).trans rfl, (blk_cell HGT21.out 4).trans rfl, (blk_cell HGT21.out 5).trans rfl, (blk_cell HGT21.out 6).trans rfl, (blk_cell HGT21.out 7).trans rfl, (blk_cell HGT21.out 8).trans rfl, (blk_cell HGT21.out 9).trans rfl, (blk_cell HGT21.out 10).trans rfl, (blk_cell HGT21.out 11).trans rfl, (blk_cell HGT21.out 12).trans rfl, (blk_cell HGT21.out 13).trans rfl, (blk_cell HGT21.out 14).trans rfl, (blk_cell HGT21.out 15).trans rfl⟩ (fun hHeld => ?_)
          clear hK K
          refine norm_ (a' := ?_) ?_ ?_
          rotate_left
          · show Act.put _ (some 16) _ = _
            simp only [Act.put, List.setIfInBounds_toArray, List.set_cons_zero, List.set_cons_succ, i64_w, i32_w]
            rfl
          exact norm_ (by first | (simp only [putAll, Act.put, List.setIfInBounds_toArray, List.set_cons_zero, List.set_cons_succ]; done) | (simp only [putAll, Act.put, List.setIfInBounds_toArray, List.set_cons_zero, List.set_cons_succ]; rfl)) (hJ (A3, c3, w20.heap.size) _ ⟨HTZ.out, Or.inl rfl, HB21, HLB21, HRS21, HG321, HGR21, HGT21, HGG21⟩)
        · refine value_ (v := .pointer (some ⟨w12.heap.size, 0, none⟩)) (w1 := w12.alloc (.cells #[.int .i64 0, .int .i64 0, .int .u64 0, .int .i64 0, .int .i64 0, .int .u8 0, .int .u8 0, .int .u8 0, .int .u8 0, .int .u8 0, .int .u8 0, .int .u8 0, .int .u8 0, .int .i16 0, .int .i16 0, .slice none 0 0] 46)) (by rfl) rfl ?_ ?_
          · first | (go_simp; done) | (go_simp; rfl)
          have hba : Below w12.heap.size w12 (w12.alloc (.cells #[.int .i64 0, .int .i64 0, .int .u64 0, .int .i64 0, .int .i64 0, .int .u8 0, .int .u8 0, .int .u8 0, .int .u8 0, .int .u8 0, .int .u8 0, .int .u8 0, .int .u8 0, .int .i16 0, .int .i16 0, .slice none 0 0] 46)) := below_new _ _
          have HGG20 : Aside0 ((w12.alloc (.cells #[.int .i64 0, .int .i64 0, .int .u64 0, .int .i64 0, .int .i64 0, .int .u8 0, .int .u8 0, .int .u8 0, .int .u8 0, .int .u8 0, .int .u8 0, .int .u8 0, .int .u8 0, .int .i16 0, .int .i16 0, .slice none 0 0] 46)).heap[w12.heap.size]? = some (.cells #[.int .i64 0, .int .i64 0, .int .u64 0, .int .i64 0, .int .i64 0, .int .u8 0, .int .u8 0, .int .u8 0, .int .u8 0, .int .u8 0, .int .u8 0, .int .u8 0, .int .u8 0, .int .i16 0, .int .i16 0, .slice none 0 0] 46 (0, 0))) := ⟨blk_new _ _⟩
          have HTZ : Aside0 (wr.heap.size < w12.heap.size) := ⟨blk_lt HGT12.out⟩
          have HB20 := Aside0.mk (below_step HB12.out hba)
          have HLB20 := Aside0.mk (lent_below HLB12.out hba)
          have HRS20 := Aside0.mk (HRS12.out.below hba)
          have HG320 := Aside0.mk ((hba.block _ (blk_lt HG312.out)).trans HG312.out)
          have HGR20 := Aside0.mk ((hba.block _ (blk_lt HGR12.out)).trans HGR12.out)
          have HGT20 := Aside0.mk ((hba.block _ (blk_lt HGT12.out)).trans HGT12.out)
          clear HB12 HLB12 HRS12 HG312 HGR12 HGT12 hba
          generalize w12.alloc (.cells #[.int .i64 0, .int .i64 0, .int .u64 0, .int .i64 0, .int .i64 0, .int .u8 0, .int .u8 0, .int .u8 0, .int .u8 0, .int .u8 0, .int .u8 0, .int .u8 0, .int .u8 0, .int .i16 0, .int .i16 0, .slice none 0 0] 46) = w20 at HB20 HLB20 HRS20 HG320 HGR20 HGT20 HGG20 ⊢
          refine hK.out _ _ ⟨(blk_cell HGR20.out 0).trans rfl, (blk_cell HGR20.out 1).trans rfl, (blk_cell HGR20.out 2).trans rfl, (blk_cell HGR20.out 3).trans rfl, (blk_cell HGT20.out 0).trans rfl, (blk_cell HGT20.out 1).trans rfl, (blk_cell HGT20.out 2).trans rfl, (blk_cell HGT20.out 3).trans rfl, (blk_cell HGT20.out 4).trans rfl, (blk_cell HGT20.out 5).trans rfl, (blk_cell HGT20.out 6).trans rfl, (blk_cell HGT20.out 7).trans rfl, (blk_cell HGT20.out 8).trans rfl, (blk_cell HGT20.out 9).trans rfl, (blk_cell HGT20.out 10).trans rfl, (blk_cell HGT20.out 11).trans rfl, (blk_cell HGT20.out 12).trans rfl, (blk_cell HGT20.out 13).trans rfl, (blk_cell HGT20.out 14).trans rfl, (blk_cell HGT20.out 15).trans rfl⟩ (fun hHeld => ?_)
          clear hK K
          refine norm_ (a' := ?_) ?_ ?_
          rotate_left
          · show Act.put _ (some 16) _ = _
            simp only [Act.put, List.setIfInBounds_toArray, List.set_cons_zero, List.set_cons_succ, i64_w, i32_w]
            rfl
          have HTW : Aside0 (w12.heap.size < w20.heap.size) := ⟨blk_lt HGG20.out⟩
          refine one_ (i := 5) (N := some 95) #[true, true, true, true, true, true, true, false] rfl rfl (one_of HT_.out (by kernel_rfl)) (by decide) (fun K hK => ?_)
          refine goes_ Try.func34 (by kernel_rfl) rfl #[.pointer (some ⟨w4.heap.size, 0, none⟩), .agg #[.int .i64 t.1, .int .i64 t.kind, .int .u64 t.n, .int .i64 t.i, .int .i64 t.w, .int .u8 (rd t.id 0), .int .u8 (rd t.id 1), .int .u8 (rd t.id 2), .int .u8 (rd t.id 3), .int .u8 (rd t.id 4), .int .u8 (rd t.id 5), .int .u8 (rd t.id 6), .int .u8 (rd t.id 7), .int .i16 t.p.1, .int .i16 t.p.2, .slice A' t.t.length c']] (by rfl) rfl rfl (by (try simp only [List.map_toArray, List.map_cons, List.map_nil]); first | done | rfl) ?_
          refine (tookD_all (.pointer (some ⟨w4.heap.size, 0, none⟩)) w20 (Or.inr ⟨w4.heap.size, rfl, HG320.out⟩) t HTM.out A' c').mono ?_
          rintro e w21 ⟨A3, c3, rfl, hb⟩
          rw [HDD.out]
          refine ⟨_, rfl, ?_⟩
          have HB21 := Aside0.mk (below_step HB20.out hb)
          have HLB21 := Aside0.mk (lent_below HLB20.out hb)
          have HRS21 := Aside0.mk (HRS20.out.below hb)
          have HG321 := Aside0.mk ((hb.block _ (blk_lt HG320.out)).trans HG320.out)
          have HGR21 := Aside0.mk ((hb.block _ (blk_lt HGR20.out)).trans HGR20.out)
          have HGT21 := Aside0.mk ((hb.block _ (blk_lt HGT20.out)).trans HGT20.out)
          have HGG21 := Aside0.mk ((hb.block _ (blk_lt HGG20.out)).trans HGG20.out)
          clear HB20 HLB20 HRS20 HG320 HGR20 HGT20 HGG20 hb
          refine hK.out _ _ ⟨(blk_cell HGR21.out 0).trans rfl, (blk_cell HGR21.out 1).trans rfl, (blk_cell HGR21.out 2).trans rfl, (blk_cell HGR21.out 3).trans rfl, (blk_cell HGT21.out 0).trans rfl, (blk_cell HGT21.out 1).trans rfl, (blk_cell HGT21.out 2).trans rfl, (blk_cell HGT21.out 3).trans rfl, (blk_cell HGT21.out 4).trans rfl, (blk_cell HGT21.out 5).trans rfl, (blk_cell HGT21.out 6).trans rfl, (blk_cell HGT21.out 7).trans rfl, (blk_cell HGT21.out 8).trans rfl, (blk_cell HGT21.out 9).trans rfl, (blk_cell HGT21.out 10).trans rfl, (blk_cell HGT21.out 11).trans rfl, (blk_cell HGT21.out 12).trans rfl, (blk_cell HGT21.out 13).trans rfl, (blk_cell HGT21.out 14).trans rfl, (blk_cell HGT21.out 15).trans rfl⟩ (fun hHeld => ?_)
          clear hK K
          refine norm_ (a' := ?_) ?_ ?_
          rotate_left
          · show Act.put _ (some 95) _ = _
            simp only [Act.put, List.setIfInBounds_toArray, List.set_cons_zero, List.set_cons_succ, i64_w, i32_w]
            rfl
          exact norm_ (by first | (simp only [putAll, Act.put, List.setIfInBounds_toArray, List.set_cons_zero, List.set_cons_succ]; done) | (simp only [putAll, Act.put, List.setIfInBounds_toArray, List.set_cons_zero, List.set_cons_succ]; rfl)) (hJ (A3, c3, w12.heap.size) _ ⟨HTZ.out, Or.inl rfl, HB21, HLB21, HRS21, HG321, HGR21, HGT21, HGG21⟩)
end Go.Proofs.Ytjijmikpoenbcaa.Codec
