/- Writers that are not there, and such as nobody made: what is put is nowhere. Conditions: those that stand in each theorem. Written in this session. -/
import Derived.Test.YtjijmikpoenbcaaCodecX
import Derived.Test.YtjijmikpoenbcaaCodecPut
import Derived.Test.YtjijmikpoenbcaaThing
import Derived.Test.YtjijmikpoenbcaaQ2
import Derived.Test.YtjijmikpoenbcaaStays
import Derived.Maps.AppendAt
import Derived.Test.YtjijmikpoenbcaaFF
import Derived.Test.YtjijmikpoenbcaaQ5
import Derived.Test.YtjijmikpoenbcaaQ3
namespace Go.Proofs.Ytjijmikpoenbcaa.Codec
open Go.RowKit Go.Proofs.YtjijmikpoenbcaaW.PrintWords Go.Proofs.YtjijmikpoenbcaaW.PrintLast Go.Proofs.YtjijmikpoenbcaaW.PrintMore
set_option linter.unusedVariables false
/-- a writer that is none, or one that nobody made -/
def Dead (w : World) (p : Value) : Prop := p = .pointer none ∨ ∃ g, p = .pointer (some ⟨g, 0, none⟩) ∧ w.heap[g]? = some (.cells #[.slice none 0 0, .bool false] 36 (0, 0))
theorem Dead.below {w w' : World} {p : Value} (h : Dead w p) (hb : Below w.heap.size w w') : Dead w' p := by
  rcases h with h | ⟨g, h, hk⟩
  · exact Or.inl h
  · exact Or.inr ⟨g, h, (hb.block _ (blk_lt hk)).trans hk⟩
set_option maxHeartbeats 8000000 in
set_option maxRecDepth 100000 in
theorem put_dead (p : Value) (A : Option Addr) (n c : Nat) (w : World) (h : Dead w p) :
    Calls Try.prog 50 #[p, .slice A n c] w fun e w' => e = .returned (.tuple #[]) ∧ Below w.heap.size w w' := by
  rcases h with rfl | ⟨g, rfl, hk⟩
  · go_enter Try.func50, Try.ntmps50
    go_wp2
    go_end0
    exact ⟨rfl, Below.refl _ _⟩
  · have hc1 : w.cell? ⟨g, 1, none⟩ = some (.bool false) := (blk_cell hk 1).trans rfl
    clear hk
    go_enter Try.func50, Try.ntmps50
    go_wp2
    go_end0
    exact ⟨rfl, Below.refl _ _⟩
set_option maxHeartbeats 8000000 in
set_option maxRecDepth 100000 in
theorem wByte_dead (p : Value) (x : Int) (w : World) (h : Dead w p) :
    Calls Try.prog 47 #[p, .int .u8 x] w fun e w' => e = .returned (.tuple #[]) ∧ Below w.heap.size w w' := by
  have HD := Aside0.mk h
  clear h
  go_enter Try.func47, Try.ntmps47
  go_wp2_with fail
  refine (put_dead p _ _ _ _ (HD.out.below (below_alloc (Below.refl _ _) _))).mono ?_
  rintro e w' ⟨rfl, hb⟩
  have H := Aside0.mk (below_step (below_alloc (Below.refl w.heap.size w) _) hb)
  clear hb
  go_wp2
  go_end0
  exact ⟨rfl, H.out⟩
set_option maxHeartbeats 8000000 in
set_option maxRecDepth 100000 in
theorem wVar_dead (p : Value) (n : Nat) (w : World) (hn : n < 18446744073709551616) (h : Dead w p) :
    Calls Try.prog 23 #[p, .int .u64 n] w fun e w' => e = .returned (.tuple #[]) ∧ Below w.heap.size w w' := by
  have HD := Aside0.mk h
  have HN := Aside0.mk hn
  clear h hn
  go_enter Try.func23, Try.ntmps23
  go_wp2
  go_loopg [1] 10 (fun kq v1 wr => ∃ (m : Nat), v1 = .int .u64 m ∧ Aside0 (m < 128 ^ kq ∧ m < 18446744073709551616) ∧ Aside0 (Below w.heap.size w wr))
  case atStart => exact ⟨n, rfl, ⟨by have := HN.out; omega⟩, ⟨Below.refl _ _⟩⟩
  case round =>
    obtain ⟨m, rfl, HM, HB⟩ := hrel
    obtain ⟨hm0, hm1⟩ := HM.out
    by_cases h7 : (127 : Int) < m
    · go_wp2_with fail
      refine (put_dead p _ _ _ _ ((HD.out.below HB.out).below (below_alloc (Below.refl _ _) _))).mono ?_
      rintro e w1 ⟨rfl, hb⟩
      have HB1 := Aside0.mk (below_step (below_alloc HB.out _) hb)
      clear hb
      go_wp2
      obtain ⟨k, rfl⟩ : ∃ k, gk = k + 1 := ⟨gk - 1, by rcases Nat.eq_zero_or_pos gk with h | h; (subst h; simp at hm0; omega); omega⟩
      go_roundg k
      case measure => omega
      case rel => exact ⟨m / 128, by first | rfl | simp, ⟨by rw [Nat.pow_succ] at hm0; omega⟩, HB1⟩
    · go_wp2_with fail
      refine (put_dead p _ _ _ _ ((HD.out.below HB.out).below (below_alloc (Below.refl _ _) _))).mono ?_
      rintro e w1 ⟨rfl, hb⟩
      have HB1 := Aside0.mk (below_step (below_alloc HB.out _) hb)
      clear hb
      go_wp2
      go_end0
      exact ⟨rfl, HB1.out⟩
set_option maxHeartbeats 8000000 in
set_option maxRecDepth 100000 in
theorem wInt_dead (p : Value) (n : Int) (w : World) (hn : -9223372036854775808 ≤ n ∧ n ≤ 9223372036854775807) (h : Dead w p) :
    Calls Try.prog 40 #[p, .int .i64 n] w fun e w' => e = .returned (.tuple #[]) ∧ Below w.heap.size w w' := by
  have HD := Aside0.mk h
  obtain ⟨n0, n1⟩ := hn
  clear h
  go_enter Try.func40, Try.ntmps40
  have HT := Aside0.mk (turned_arg n n0 n1)
  have HTL := Aside0.mk (turned_lt n n0 n1)
  go_wp2_with fail
  rw [HT.out]
  refine (wVar_dead p (turned n) _ HTL.out HD.out).mono ?_
  rintro e w' ⟨rfl, h⟩
  have H := Aside0.mk h
  clear h
  go_wp2
  go_end0
  exact ⟨rfl, H.out⟩
set_option maxHeartbeats 8000000 in
set_option maxRecDepth 100000 in
theorem wID_dead (p : Value) (b0 b1 b2 b3 b4 b5 b6 b7 : Int) (w : World) (h : Dead w p) :
    Calls Try.prog 48 #[p, .agg #[.int .u8 b0, .int .u8 b1, .int .u8 b2, .int .u8 b3, .int .u8 b4, .int .u8 b5, .int .u8 b6, .int .u8 b7]] w fun e w' => e = .returned (.tuple #[]) ∧ Below w.heap.size w w' := by
  have HD := Aside0.mk h
  clear h
  go_enter Try.func48, Try.ntmps48
  go_wp2_with fail
  refine (put_dead p _ _ _ _ (HD.out.below (below_alloc (Below.refl _ _) _))).mono ?_
  rintro e w' ⟨rfl, hb⟩
  have H := Aside0.mk (below_step (below_alloc (Below.refl w.heap.size w) _) hb)
  clear hb
  go_wp2
  go_end0
  exact ⟨rfl, H.out⟩
set_option maxHeartbeats 8000000 in
set_option maxRecDepth 100000 in
theorem wPoint_dead (p : Value) (x y : Int) (w : World) (h : Dead w p) :
    Calls Try.prog 24 #[p, .agg #[.int .i16 x, .int .i16 y]] w fun e w' => e = .returned (.tuple #[]) ∧ Below w.heap.size w w' := by
  have HD := Aside0.mk h
  clear h
  go_enter Try.func24, Try.ntmps24
  go_wp2
  go_quiet (fail)
  rename_i nq
  have HB : Aside0 (Below w.heap.size w ((w.alloc (.cells #[Value.int .i16 x, Value.int .i16 y] 44)).drewN nq)) := ⟨pw_below_drewN (below_alloc (Below.refl _ _) _) _⟩
  go_wp2_with fail
  refine (put_dead p _ _ _ _ ((HD.out.below HB.out).below (below_alloc (Below.refl _ _) _))).mono ?_
  rintro e w' ⟨rfl, hb⟩
  have H := Aside0.mk (below_step (below_alloc HB.out _) hb)
  clear hb
  go_wp2
  go_end0
  exact ⟨rfl, H.out⟩
set_option maxHeartbeats 8000000 in
set_option maxRecDepth 100000 in
theorem wFixed_dead (p : Value) (n wd : Int) (w : World) (h : Dead w p) :
    Calls Try.prog 33 #[p, .int .u64 n, .int .i64 wd] w fun e w' => e = .returned (.int .i64 2) ∧ Below w.heap.size w w' := by
  rcases h with rfl | ⟨g, rfl, hk⟩
  · go_enter Try.func33, Try.ntmps33
    go_wp2
    go_ret
    exact ⟨rfl, Below.refl _ _⟩
  · have hc1 : w.cell? ⟨g, 1, none⟩ = some (.bool false) := (blk_cell hk 1).trans rfl
    clear hk
    go_enter Try.func33, Try.ntmps33
    go_wp2
    go_ret
    exact ⟨rfl, Below.refl _ _⟩
set_option maxHeartbeats 8000000 in
set_option maxRecDepth 100000 in
theorem wText_dead (p : Value) (s : ByteArray) (w : World) (hs : s.size ≤ 140737488355328) (h : Dead w p) :
    Calls Try.prog 49 #[p, .string s] w fun e w' => e = .returned (.tuple #[]) ∧ Below w.heap.size w w' := by
  have hs64 : IntKind.u64.wrap (s.size : Int) = (s.size : Int) := wrap_u64_nonneg (by omega) (by omega)
  have HV := Aside0.mk (wVar_dead p s.size w (by omega) h)
  rcases h with rfl | ⟨g, rfl, hk⟩
  · go_enter Try.func49, Try.ntmps49
    go_wp2_with fail
    refine HV.out.mono ?_
    rintro e w1 ⟨rfl, hb⟩
    have HB := Aside0.mk hb
    clear hb
    go_wp2
    go_end0
    exact ⟨rfl, HB.out⟩
  · have HK := Aside0.mk hk
    clear hk
    go_enter Try.func49, Try.ntmps49
    go_wp2_with fail
    refine HV.out.mono ?_
    rintro e w1 ⟨rfl, hb⟩
    have hk1 := (hb.block _ (blk_lt HK.out)).trans HK.out
    have hc1 : w1.cell? ⟨g, 1, none⟩ = some (.bool false) := (blk_cell hk1 1).trans rfl
    have HB := Aside0.mk hb
    clear hb hk1
    go_wp2
    go_end0
    exact ⟨rfl, HB.out⟩
set_option maxHeartbeats 8000000 in
set_option maxRecDepth 100000 in
theorem wBytes_dead (p : Value) (w : World) (h : Dead w p) :
    Calls Try.prog 31 #[p] w fun e w' => ∃ A, e = .returned (.slice A 0 0) ∧ w'.ownsRow w.heap.size 5 1 (.slice A 0 0) 0 [] ∧ Below w.heap.size w w' := by
  rcases h with rfl | ⟨g, rfl, hk⟩
  · go_enter Try.func31, Try.ntmps31
    go_wp2
    go_ret
    exact ⟨none, rfl, World.ownsRow_nil _ _ _ _, Below.refl _ _⟩
  · have hc0 : w.cell? ⟨g, 0, none⟩ = some (.slice none 0 0) := (blk_cell hk 0).trans rfl
    clear hk
    obtain ⟨i0, hi, hz0, hz1, hz2⟩ := info_parts u8info
    go_enter Try.func31, Try.ntmps31
    go_wp2_with (first | (at_make; refine wpList_make_full _ rfl _ _ 22 rfl w.heap.size 5 i0 (.int .u8 0) 1 Try.underlying22 hi hz0 hz1 .i64 .i64 0 0 0 rfl rfl rfl rfl (by rw [hz2]; omega) (by unfold maxLen; omega) (Nat.le_refl _) ?_; intro w1 hown hgrow; have HO := Aside0.mk hown; have HG := Aside0.mk hgrow; have hd0 : w1.cell? ⟨g, 0, none⟩ = some (.slice none 0 0) := (hgrow.cell hc0 (by simp)); clear hown hgrow; have HM := made_cells HO.out) | ((with_reducible refine copy_all rfl (.tmp 12) (.tmp 16) rfl w.heap.size 0 0 none ?hd ?hs ([] : List Int) ?hr HM.choose ?hg ?hcur ?_); (case hd => rfl); (case hs => rfl); (case hr => exact Kd.C_nil _ _); (case hg => exact HM.choose_spec.1); (case hcur => exact HM.choose_spec.2); intro w2 hw2 hch; have HW2 := Aside0.mk hw2; have HCH := Aside0.mk hch; clear hw2 hch))
    go_ret
    exact ⟨_, rfl, ⟨rfl, Or.inr ⟨w.heap.size, 0, _, rfl, Nat.le_refl _, HW2.out, Nat.le_refl _, Nat.zero_le _, rfl, rfl⟩⟩, ((Chg.of_grown HG.out).then HCH.out (fun i hi => Or.inr (by omega))).below (Nat.le_refl _) (fun k hk => by cases hk)⟩
end Go.Proofs.Ytjijmikpoenbcaa.Codec
/- A thing put to a writer that is none, or that nobody made. Written by wip/gen/putdead.py. -/
namespace Go.Proofs.Ytjijmikpoenbcaa.Codec
open Go.RowKit Go.Proofs.YtjijmikpoenbcaaW.PrintWords Go.Proofs.YtjijmikpoenbcaaW.PrintLast Go.Proofs.YtjijmikpoenbcaaW.PrintMore
set_option linter.unusedVariables false
set_option maxHeartbeats 8000000 in
set_option maxRecDepth 100000 in
theorem putD_byte (pw : Value) (w : World) (hd : Dead w pw) (who kind n i wd b0 b1 b2 b3 b4 b5 b6 b7 x y : Int) (A : Option Addr) (m c : Nat)  (hk : kindOf kind = 0) :
    Calls Try.prog 21 #[pw, .agg (thing who kind n i wd b0 b1 b2 b3 b4 b5 b6 b7 x y (.slice A m c))] w fun e w' => e = .returned (.int .i64 0) ∧ Below w.heap.size w w' := by
  have HK := Aside0.mk hk
  have HD := Aside0.mk (hd.below (below_alloc (Below.refl w.heap.size w) (.cells #[Value.int .i64 who, Value.int .i64 kind, Value.int .u64 n, Value.int .i64 i, Value.int .i64 wd, Value.int .u8 b0, Value.int .u8 b1, Value.int .u8 b2, Value.int .u8 b3, Value.int .u8 b4, Value.int .u8 b5, Value.int .u8 b6, Value.int .u8 b7, Value.int .i16 x, Value.int .i16 y, .slice A m c] 46)))
  clear hk hd
  unfold thing
  go_enter Try.func21, Try.ntmps21
  go_wp2_with fail
  refine (round7_calls kind _).mono ?_
  rintro e w1 ⟨rfl, rfl⟩
  rw [HK.out]
  go_wp2_with fail
  refine (wByte_dead pw (n % 256) _ HD.out).mono ?_
  rintro e w2 ⟨rfl, hb⟩
  have H := Aside0.mk (below_step (below_alloc (Below.refl w.heap.size w) (.cells #[Value.int .i64 who, Value.int .i64 kind, Value.int .u64 n, Value.int .i64 i, Value.int .i64 wd, Value.int .u8 b0, Value.int .u8 b1, Value.int .u8 b2, Value.int .u8 b3, Value.int .u8 b4, Value.int .u8 b5, Value.int .u8 b6, Value.int .u8 b7, Value.int .i16 x, Value.int .i16 y, .slice A m c] 46)) hb)
  clear hb
  go_wp2
  go_ret
  exact ⟨rfl, H.out⟩
set_option maxHeartbeats 8000000 in
set_option maxRecDepth 100000 in
theorem putD_fixed (pw : Value) (w : World) (hd : Dead w pw) (who kind n i wd b0 b1 b2 b3 b4 b5 b6 b7 x y : Int) (A : Option Addr) (m c : Nat)  (hk : kindOf kind = 1) :
    Calls Try.prog 21 #[pw, .agg (thing who kind n i wd b0 b1 b2 b3 b4 b5 b6 b7 x y (.slice A m c))] w fun e w' => e = .returned (.int .i64 2) ∧ Below w.heap.size w w' := by
  have HK := Aside0.mk hk
  have HD := Aside0.mk (hd.below (below_alloc (Below.refl w.heap.size w) (.cells #[Value.int .i64 who, Value.int .i64 kind, Value.int .u64 n, Value.int .i64 i, Value.int .i64 wd, Value.int .u8 b0, Value.int .u8 b1, Value.int .u8 b2, Value.int .u8 b3, Value.int .u8 b4, Value.int .u8 b5, Value.int .u8 b6, Value.int .u8 b7, Value.int .i16 x, Value.int .i16 y, .slice A m c] 46)))
  clear hk hd
  unfold thing
  go_enter Try.func21, Try.ntmps21
  go_wp2_with fail
  refine (round7_calls kind _).mono ?_
  rintro e w1 ⟨rfl, rfl⟩
  rw [HK.out]
  go_wp2_with fail
  refine (wFixed_dead pw n wd _ HD.out).mono ?_
  rintro e w2 ⟨rfl, hb⟩
  have H := Aside0.mk (below_step (below_alloc (Below.refl w.heap.size w) (.cells #[Value.int .i64 who, Value.int .i64 kind, Value.int .u64 n, Value.int .i64 i, Value.int .i64 wd, Value.int .u8 b0, Value.int .u8 b1, Value.int .u8 b2, Value.int .u8 b3, Value.int .u8 b4, Value.int .u8 b5, Value.int .u8 b6, Value.int .u8 b7, Value.int .i16 x, Value.int .i16 y, .slice A m c] 46)) hb)
  clear hb
  go_wp2
  go_ret
  exact ⟨rfl, H.out⟩
set_option maxHeartbeats 8000000 in
set_option maxRecDepth 100000 in
theorem putD_var (pw : Value) (w : World) (hd : Dead w pw) (who kind n i wd b0 b1 b2 b3 b4 b5 b6 b7 x y : Int) (A : Option Addr) (m c : Nat) (nn : Nat) (hnn : nn < 18446744073709551616) (hn : n = nn) (hk : kindOf kind = 2) :
    Calls Try.prog 21 #[pw, .agg (thing who kind n i wd b0 b1 b2 b3 b4 b5 b6 b7 x y (.slice A m c))] w fun e w' => e = .returned (.int .i64 0) ∧ Below w.heap.size w w' := by
  subst hn
  have HNN := Aside0.mk hnn
  clear hnn
  have HK := Aside0.mk hk
  have HD := Aside0.mk (hd.below (below_alloc (Below.refl w.heap.size w) (.cells #[Value.int .i64 who, Value.int .i64 kind, Value.int .u64 nn, Value.int .i64 i, Value.int .i64 wd, Value.int .u8 b0, Value.int .u8 b1, Value.int .u8 b2, Value.int .u8 b3, Value.int .u8 b4, Value.int .u8 b5, Value.int .u8 b6, Value.int .u8 b7, Value.int .i16 x, Value.int .i16 y, .slice A m c] 46)))
  clear hk hd
  unfold thing
  go_enter Try.func21, Try.ntmps21
  go_wp2_with fail
  refine (round7_calls kind _).mono ?_
  rintro e w1 ⟨rfl, rfl⟩
  rw [HK.out]
  go_wp2_with fail
  refine (wVar_dead pw nn _ HNN.out HD.out).mono ?_
  rintro e w2 ⟨rfl, hb⟩
  have H := Aside0.mk (below_step (below_alloc (Below.refl w.heap.size w) (.cells #[Value.int .i64 who, Value.int .i64 kind, Value.int .u64 nn, Value.int .i64 i, Value.int .i64 wd, Value.int .u8 b0, Value.int .u8 b1, Value.int .u8 b2, Value.int .u8 b3, Value.int .u8 b4, Value.int .u8 b5, Value.int .u8 b6, Value.int .u8 b7, Value.int .i16 x, Value.int .i16 y, .slice A m c] 46)) hb)
  clear hb
  go_wp2
  go_ret
  exact ⟨rfl, H.out⟩
set_option maxHeartbeats 8000000 in
set_option maxRecDepth 100000 in
theorem putD_int (pw : Value) (w : World) (hd : Dead w pw) (who kind n i wd b0 b1 b2 b3 b4 b5 b6 b7 x y : Int) (A : Option Addr) (m c : Nat) (hi : -9223372036854775808 ≤ i ∧ i ≤ 9223372036854775807) (hk : kindOf kind = 3) :
    Calls Try.prog 21 #[pw, .agg (thing who kind n i wd b0 b1 b2 b3 b4 b5 b6 b7 x y (.slice A m c))] w fun e w' => e = .returned (.int .i64 0) ∧ Below w.heap.size w w' := by
  have HI := Aside0.mk hi
  clear hi
  have HK := Aside0.mk hk
  have HD := Aside0.mk (hd.below (below_alloc (Below.refl w.heap.size w) (.cells #[Value.int .i64 who, Value.int .i64 kind, Value.int .u64 n, Value.int .i64 i, Value.int .i64 wd, Value.int .u8 b0, Value.int .u8 b1, Value.int .u8 b2, Value.int .u8 b3, Value.int .u8 b4, Value.int .u8 b5, Value.int .u8 b6, Value.int .u8 b7, Value.int .i16 x, Value.int .i16 y, .slice A m c] 46)))
  clear hk hd
  unfold thing
  go_enter Try.func21, Try.ntmps21
  go_wp2_with fail
  refine (round7_calls kind _).mono ?_
  rintro e w1 ⟨rfl, rfl⟩
  rw [HK.out]
  go_wp2_with fail
  refine (wInt_dead pw i _ HI.out HD.out).mono ?_
  rintro e w2 ⟨rfl, hb⟩
  have H := Aside0.mk (below_step (below_alloc (Below.refl w.heap.size w) (.cells #[Value.int .i64 who, Value.int .i64 kind, Value.int .u64 n, Value.int .i64 i, Value.int .i64 wd, Value.int .u8 b0, Value.int .u8 b1, Value.int .u8 b2, Value.int .u8 b3, Value.int .u8 b4, Value.int .u8 b5, Value.int .u8 b6, Value.int .u8 b7, Value.int .i16 x, Value.int .i16 y, .slice A m c] 46)) hb)
  clear hb
  go_wp2
  go_ret
  exact ⟨rfl, H.out⟩
set_option maxHeartbeats 8000000 in
set_option maxRecDepth 100000 in
theorem putD_id (pw : Value) (w : World) (hd : Dead w pw) (who kind n i wd b0 b1 b2 b3 b4 b5 b6 b7 x y : Int) (A : Option Addr) (m c : Nat)  (hk : kindOf kind = 4) :
    Calls Try.prog 21 #[pw, .agg (thing who kind n i wd b0 b1 b2 b3 b4 b5 b6 b7 x y (.slice A m c))] w fun e w' => e = .returned (.int .i64 0) ∧ Below w.heap.size w w' := by
  have HK := Aside0.mk hk
  have HD := Aside0.mk (hd.below (below_alloc (Below.refl w.heap.size w) (.cells #[Value.int .i64 who, Value.int .i64 kind, Value.int .u64 n, Value.int .i64 i, Value.int .i64 wd, Value.int .u8 b0, Value.int .u8 b1, Value.int .u8 b2, Value.int .u8 b3, Value.int .u8 b4, Value.int .u8 b5, Value.int .u8 b6, Value.int .u8 b7, Value.int .i16 x, Value.int .i16 y, .slice A m c] 46)))
  clear hk hd
  unfold thing
  go_enter Try.func21, Try.ntmps21
  go_wp2_with fail
  refine (round7_calls kind _).mono ?_
  rintro e w1 ⟨rfl, rfl⟩
  rw [HK.out]
  go_wp2_with fail
  refine (wID_dead pw b0 b1 b2 b3 b4 b5 b6 b7 _ HD.out).mono ?_
  rintro e w2 ⟨rfl, hb⟩
  have H := Aside0.mk (below_step (below_alloc (Below.refl w.heap.size w) (.cells #[Value.int .i64 who, Value.int .i64 kind, Value.int .u64 n, Value.int .i64 i, Value.int .i64 wd, Value.int .u8 b0, Value.int .u8 b1, Value.int .u8 b2, Value.int .u8 b3, Value.int .u8 b4, Value.int .u8 b5, Value.int .u8 b6, Value.int .u8 b7, Value.int .i16 x, Value.int .i16 y, .slice A m c] 46)) hb)
  clear hb
  go_wp2
  go_ret
  exact ⟨rfl, H.out⟩
set_option maxHeartbeats 8000000 in
set_option maxRecDepth 100000 in
theorem putD_point (pw : Value) (w : World) (hd : Dead w pw) (who kind n i wd b0 b1 b2 b3 b4 b5 b6 b7 x y : Int) (A : Option Addr) (m c : Nat)  (hk : kindOf kind = 5) :
    Calls Try.prog 21 #[pw, .agg (thing who kind n i wd b0 b1 b2 b3 b4 b5 b6 b7 x y (.slice A m c))] w fun e w' => e = .returned (.int .i64 0) ∧ Below w.heap.size w w' := by
  have HK := Aside0.mk hk
  have HD := Aside0.mk (hd.below (below_alloc (Below.refl w.heap.size w) (.cells #[Value.int .i64 who, Value.int .i64 kind, Value.int .u64 n, Value.int .i64 i, Value.int .i64 wd, Value.int .u8 b0, Value.int .u8 b1, Value.int .u8 b2, Value.int .u8 b3, Value.int .u8 b4, Value.int .u8 b5, Value.int .u8 b6, Value.int .u8 b7, Value.int .i16 x, Value.int .i16 y, .slice A m c] 46)))
  clear hk hd
  unfold thing
  go_enter Try.func21, Try.ntmps21
  go_wp2_with fail
  refine (round7_calls kind _).mono ?_
  rintro e w1 ⟨rfl, rfl⟩
  rw [HK.out]
  go_wp2_with fail
  refine (wPoint_dead pw x y _ HD.out).mono ?_
  rintro e w2 ⟨rfl, hb⟩
  have H := Aside0.mk (below_step (below_alloc (Below.refl w.heap.size w) (.cells #[Value.int .i64 who, Value.int .i64 kind, Value.int .u64 n, Value.int .i64 i, Value.int .i64 wd, Value.int .u8 b0, Value.int .u8 b1, Value.int .u8 b2, Value.int .u8 b3, Value.int .u8 b4, Value.int .u8 b5, Value.int .u8 b6, Value.int .u8 b7, Value.int .i16 x, Value.int .i16 y, .slice A m c] 46)) hb)
  clear hb
  go_wp2
  go_ret
  exact ⟨rfl, H.out⟩
set_option maxHeartbeats 8000000 in
set_option maxRecDepth 100000 in
theorem putD_text (pw : Value) (w : World) (hd : Dead w pw) (who kind n i wd b0 b1 b2 b3 b4 b5 b6 b7 x y : Int) (A : Option Addr) (m c : Nat) (bs : List Int) (hm : m = bs.length) (hbs : Kd.C (Kd.int .u8) w A bs.length bs) (hl : bs.length ≤ 140737488355328) (hk : kindOf kind = 6) :
    Calls Try.prog 21 #[pw, .agg (thing who kind n i wd b0 b1 b2 b3 b4 b5 b6 b7 x y (.slice A m c))] w fun e w' => e = .returned (.int .i64 0) ∧ Below w.heap.size w w' := by
  subst hm
  have HBS := Aside0.mk hbs
  have HL := Aside0.mk hl
  clear hbs hl
  have HK := Aside0.mk hk
  have HD := Aside0.mk (hd.below (below_alloc (Below.refl w.heap.size w) (.cells #[Value.int .i64 who, Value.int .i64 kind, Value.int .u64 n, Value.int .i64 i, Value.int .i64 wd, Value.int .u8 b0, Value.int .u8 b1, Value.int .u8 b2, Value.int .u8 b3, Value.int .u8 b4, Value.int .u8 b5, Value.int .u8 b6, Value.int .u8 b7, Value.int .i16 x, Value.int .i16 y, .slice A bs.length c] 46)))
  clear hk hd
  unfold thing
  go_enter Try.func21, Try.ntmps21
  go_wp2_with fail
  refine (round7_calls kind _).mono ?_
  rintro e w1 ⟨rfl, rfl⟩
  rw [HK.out]
  have hcv := conv_text c (Kd.C_alloc HBS.out (.cells #[Value.int .i64 who, Value.int .i64 kind, Value.int .u64 n, Value.int .i64 i, Value.int .i64 wd, Value.int .u8 b0, Value.int .u8 b1, Value.int .u8 b2, Value.int .u8 b3, Value.int .u8 b4, Value.int .u8 b5, Value.int .u8 b6, Value.int .u8 b7, Value.int .i16 x, Value.int .i16 y, .slice A bs.length c] 46))
  go_wp2_with fail
  refine (wText_dead pw (strOfNums bs) _ (by rw [strOfNums_size]; exact HL.out) HD.out).mono ?_
  rintro e w2 ⟨rfl, hb⟩
  have H := Aside0.mk (below_step (below_alloc (Below.refl w.heap.size w) (.cells #[Value.int .i64 who, Value.int .i64 kind, Value.int .u64 n, Value.int .i64 i, Value.int .i64 wd, Value.int .u8 b0, Value.int .u8 b1, Value.int .u8 b2, Value.int .u8 b3, Value.int .u8 b4, Value.int .u8 b5, Value.int .u8 b6, Value.int .u8 b7, Value.int .i16 x, Value.int .i16 y, .slice A bs.length c] 46)) hb)
  clear hb
  go_wp2
  go_ret
  exact ⟨rfl, H.out⟩
/-- what put answers of a dead writer -/
def deadE (t : Th) : Int := if kindOf t.kind = 1 then 2 else 0
theorem putD_all (pw : Value) (w : World) (hd : Dead w pw) (t : Th) (ht : Good t) (A : Option Addr) (c : Nat) (hC : Kd.C (Kd.int .u8) w A t.t.length t.t) (hl : t.t.length ≤ 140737488355328) :
    Calls Try.prog 21 #[pw, .agg (thingOf t A c)] w fun e w' => e = .returned (.int .i64 (deadE t)) ∧ Below w.heap.size w w' := by
  have hnn : ((t.n.toNat : Nat) : Int) = t.n := by have := ht.gn; omega
  have hnl : t.n.toNat < 18446744073709551616 := by have := ht.gn; omega
  unfold deadE
  rcases kind_cases t.kind with h | h | h | h | h | h | h
  · rw [if_neg (by omega)]
    exact putD_byte pw w hd t.1 t.kind t.n t.i t.w (rd t.id 0) (rd t.id 1) (rd t.id 2) (rd t.id 3) (rd t.id 4) (rd t.id 5) (rd t.id 6) (rd t.id 7) t.p.1 t.p.2 A t.t.length c h
  · rw [if_pos h]
    exact putD_fixed pw w hd t.1 t.kind t.n t.i t.w (rd t.id 0) (rd t.id 1) (rd t.id 2) (rd t.id 3) (rd t.id 4) (rd t.id 5) (rd t.id 6) (rd t.id 7) t.p.1 t.p.2 A t.t.length c h
  · rw [if_neg (by omega)]
    exact putD_var pw w hd t.1 t.kind t.n t.i t.w (rd t.id 0) (rd t.id 1) (rd t.id 2) (rd t.id 3) (rd t.id 4) (rd t.id 5) (rd t.id 6) (rd t.id 7) t.p.1 t.p.2 A t.t.length c t.n.toNat hnl hnn.symm h
  · rw [if_neg (by omega)]
    exact putD_int pw w hd t.1 t.kind t.n t.i t.w (rd t.id 0) (rd t.id 1) (rd t.id 2) (rd t.id 3) (rd t.id 4) (rd t.id 5) (rd t.id 6) (rd t.id 7) t.p.1 t.p.2 A t.t.length c ht.gi h
  · rw [if_neg (by omega)]
    exact putD_id pw w hd t.1 t.kind t.n t.i t.w (rd t.id 0) (rd t.id 1) (rd t.id 2) (rd t.id 3) (rd t.id 4) (rd t.id 5) (rd t.id 6) (rd t.id 7) t.p.1 t.p.2 A t.t.length c h
  · rw [if_neg (by omega)]
    exact putD_point pw w hd t.1 t.kind t.n t.i t.w (rd t.id 0) (rd t.id 1) (rd t.id 2) (rd t.id 3) (rd t.id 4) (rd t.id 5) (rd t.id 6) (rd t.id 7) t.p.1 t.p.2 A t.t.length c h
  · rw [if_neg (by omega)]
    exact putD_text pw w hd t.1 t.kind t.n t.i t.w (rd t.id 0) (rd t.id 1) (rd t.id 2) (rd t.id 3) (rd t.id 4) (rd t.id 5) (rd t.id 6) (rd t.id 7) t.p.1 t.p.2 A t.t.length c t.t rfl hC hl h
end Go.Proofs.Ytjijmikpoenbcaa.Codec
/- What Bytes hands over is the asker's own: both answers are marked and grown, and all is as it was marked. Conditions: those that stand in each theorem. Written in this session. -/
namespace Go.Proofs.Ytjijmikpoenbcaa.Codec
open Go.RowKit Go.Proofs.YtjijmikpoenbcaaW.PrintWords Go.Proofs.YtjijmikpoenbcaaW.PrintLast Go.Proofs.YtjijmikpoenbcaaW.PrintMore Go.Proofs.Ytjijmikpoenbcaa.Q
set_option linter.unusedVariables false
theorem run_append_full {P : Program} (w : World) (base : Nat) (t ty e : TypeId) (i : TypeInfo) (z : Value) (size bytes : Nat) (ht : P.underlying t = some (.slice e)) (hi : P.info? e = some i) (hz : i.zero = some z)
    (hsize : i.size = size) (hby : i.bytes = bytes) (hzs : z.cells.size = size) (hsz : 0 < size)
    (A : Option Addr) (n : Nat) (xs : List Value) (hown : w.ownsRow base e size (.slice A n n) n xs)
    (a : Addr) (m c : Nat) (hm0 : 0 < m) (news : List Value) (hl : news.length = m * size) (hnews : ∀ j u, news[j]? = some u → w.cell? (a.add j) = some u)
    (h63 : n + m ≤ maxLen) (hbytes : (n + m) * bytes ≤ 140737488355328) (hbase : base ≤ w.heap.size) :
    ∃ v' w', (Builtin.append_ #[t, t] ty #[.slice A n n, .slice (some a) m c]).run P w = .ok v' w' ∧ w'.ownsRow base e size v' (n + m) (xs ++ news) ∧ w.grownBy w' none ∧ v'.ownBlock = some w.heap.size := by
  subst hsize
  subst hby
  have hsmall : n + m ≤ 9223372036854775807 := by simp only [maxLen] at h63; omega
  have hlen : (xs ++ news).length = (n + m) * i.size := by rw [List.length_append, hown.1, hl, Nat.add_mul]
  have grown : ∀ (old : Nat), old < n + m → ∀ (row : Option Nat),
      (w.drew.alloc (.cells (xs.toArray ++ news.toArray ++ Builtin.zeroCells z.cells (grownCap w (n + m) old e - (n + m))) e)).ownsRow base e i.size
        (.slice (some ⟨w.heap.size, 0, none⟩) (n + m) (grownCap w (n + m) old e)) (n + m) (xs ++ news) ∧
      w.grownBy (w.drew.alloc (.cells (xs.toArray ++ news.toArray ++ Builtin.zeroCells z.cells (grownCap w (n + m) old e - (n + m))) e)) row := by
    intro old ho row
    have hge := grownCap_ge w (n + m) old e
    have hcm : grownCap w (n + m) old e ≤ maxLen := grownCap_le_maxLen w (n + m) old e h63
    refine ⟨⟨hlen, .inr ⟨w.heap.size, _, _, rfl, hbase, heap_alloc_new w.drew _, hge, hcm, ?_, ?_⟩⟩, ⟨rfl, rfl, rfl, by simp, fun k hk hn => (World.grownBy_alloc w.drew _ row).block k hk hn⟩⟩
    · simp only [Array.size_append, List.size_toArray, size_zeroCells, hzs, hown.1, hl, ← Nat.add_mul]
      congr 1
      omega
    · simp only [Array.toList_append, List.append_assoc]
      rw [← List.append_assoc, ← hlen]
      exact List.take_left
  rcases hown.2 with ⟨he, h0⟩ | ⟨g, cap, cur, he, hbg, hg, hnc, hcm, hcs, htake⟩
  · simp only [Value.slice.injEq] at he
    obtain ⟨rfl, rfl, _⟩ := he
    have hx : xs = [] := List.eq_nil_of_length_eq_zero (by simpa using hown.1)
    subst hx
    have hr := run_append_nil (P := P) w t ty e i z ht hi hz a m c news hl hnews (by omega) (by omega) (by have hb := hbytes; simp only [Nat.zero_add] at hb; omega)
    have hgr := grown 0 (by omega) none
    simp only [Nat.zero_add, List.nil_append, Array.empty_append] at hgr ⊢
    exact ⟨_, _, hr, hgr.1, hgr.2, rfl⟩
  · simp only [Value.slice.injEq] at he
    obtain ⟨rfl, _, rfl⟩ := he
    have holds : ∀ j u, xs[j]? = some u → w.cell? ((⟨g, 0, none⟩ : Addr).add j) = some u := hown.cells (g := g) rfl
    have hr := run_append_grow (P := P) w t ty e i z ht hi hz ⟨g, 0, none⟩ n n xs hown.1 holds a m c news hl hnews (by omega) (by omega) (growslice_fits (by omega) hbytes)
    have hgr := grown n (by omega) none
    exact ⟨_, _, hr, hgr.1, hgr.2, rfl⟩
/-- bytes in a row of the call's own -/
def Row (w : World) (B : Nat) (v : Value) (l : List Int) : Prop := w.ownsRow B 5 1 v l.length (nums .u8 l)
theorem Row.move {w w' : World} {B : Nat} {v : Value} {l : List Int} (h : Row w B v l) (hm : ∀ k, v.ownBlock = some k → w'.heap[k]? = w.heap[k]?) : Row w' B v l := own_move h hm
theorem Row.grown {w w' : World} {B : Nat} {v : Value} {l : List Int} {row : Option Nat} (h : Row w B v l) (hg : w.grownBy w' row) (hr : ∀ k, row = some k → v.ownBlock ≠ some k) : Row w' B v l :=
  h.move (fun k hk => hg.block k (own_lt h k hk) (fun e => hr k e.symm hk))
theorem Row.below {w w' : World} {B : Nat} {v : Value} {l : List Int} (h : Row w B v l) (hb : Below w.heap.size w w') : Row w' B v l := h.move (fun k hk => hb.block k (own_lt h k hk))
theorem Row.len {w : World} {B : Nat} {v : Value} {l : List Int} (h : Row w B v l) : ∃ A c, v = .slice A l.length c ∧ l.length ≤ c ∧ Kd.C (Kd.int .u8) w A l.length l := own_C h
/-- one append, to a row whose block is written (row: its block), or to one that is full (row: none) -/
theorem app_one {ops : Array Oper} {rest : List Oper} {o : Oper} {a : Act} {Q : Exit → Act → World → Prop} {w : World} (hgd : o.guard = none) (s x : Operand)
    (ho : o.op = .call { callee := .builtin .append, args := #[s, x], argTypes := #[22, 22] }) (B : Nat) (v : Value) (l : List Int) (y : Int) (row : Option Nat)
    (hs : a.eval s = v) (hx : a.eval x = .slice (some ⟨w.heap.size, 0, none⟩) 1 1) (HO : Row w B v l) (hf : (row = none ∧ ∃ A, v = .slice A l.length l.length) ∨ row = v.ownBlock) (hB : B ≤ w.heap.size) (hl : l.length + 1 ≤ 140737488355328)
    (h : ∀ v' w', Row w' B v' (l ++ [y]) → w.grownBy w' row → (∀ k, v'.ownBlock = some k → row = some k ∨ w.heap.size ≤ k) → wpList Try.prog ops Q rest (a.put o.dst v') w') :
    wpList Try.prog ops Q (o :: rest) a (w.alloc (.cells #[.int .u8 y] 5)) := by
  obtain ⟨i0, hi, hz0, hz1, hz2⟩ := info_parts u8info
  have HA : (w.alloc (.cells #[.int .u8 y] 5)).ownsRow B 5 1 v l.length (nums .u8 l) := Row.below HO (below_alloc (Below.refl _ _) _)
  have hn : nums .u8 (l ++ [y]) = nums .u8 l ++ [.int .u8 y] := by simp [nums]
  have hsz : B ≤ (w.alloc (.cells #[.int .u8 y] 5)).heap.size := by rw [World.size_alloc]; omega
  have h63 : l.length + 1 ≤ maxLen := by unfold maxLen; omega
  have hbt : (l.length + 1) * 1 ≤ 140737488355328 := by omega
  have hga : ∀ r, w.grownBy (w.alloc (.cells #[.int .u8 y] 5)) r := fun r => World.grownBy_alloc w _ r
  rcases hf with ⟨rfl, A, rfl⟩ | rfl
  · refine wpList_plain hgd fun K hK => ?_
    obtain ⟨v', w', hr, h2, h3, h4⟩ := run_append_full (P := Try.prog) _ B 22 o.type 5 i0 (.int .u8 0) 1 1 Try.underlying22 hi hz0 hz1 hz2 rfl (by decide) A l.length (nums .u8 l) HA ⟨w.heap.size, 0, none⟩ 1 1 (by decide) [.int .u8 y] rfl (cell_one_new _ _ _) h63 hbt hsz
    unfold Oper.wp execOp
    simp only [ho, resolve, invoke, builtin, Sem.run_bind, Sem.run_pure, Result.andThen_ok, List.map_toArray, List.map_cons, List.map_nil, hs, hx, hr]
    refine hK _ _ (h v' w' (by unfold Row; rw [List.length_append, hn]; exact h2) ((hga none).trans h3) (fun k hk => Or.inr ?_))
    rw [h4, World.size_alloc] at hk
    cases hk
    omega
  · refine wpList_append_own_at _ hgd s x 22 ho B 5 i0 (.int .u8 0) 1 1 Try.underlying22 hi hz0 hz1 hz2 rfl (by decide) v l.length (nums .u8 l) hs HA ⟨w.heap.size, 0, none⟩ 1 1 [.int .u8 y] hx rfl (cell_one_new _ _ _) (by simp [Value.oneCell']) h63 hbt hsz ?_
    intro v' w' h2 h3 _ h5
    refine h v' w' (by unfold Row; rw [List.length_append, hn]; exact h2) ((hga _).trans h3) (fun k hk => ?_)
    rcases h5 with h5 | h5
    · exact Or.inl (h5 ▸ hk)
    · rw [h5, World.size_alloc] at hk
      cases hk
      exact Or.inr (by omega)
/-- the four rows of 'hand': two answers, and what grows out of them -/
structure Quad (w : World) (B : Nat) (va : Value) (la : List Int) (vb : Value) (lb : List Int) (x : Value) (lx : List Int) (y : Value) (ly : List Int) (rx ry : Option Nat) : Prop where
  ra : Row w B va la
  rb : Row w B vb lb
  rc : Row w B x lx
  rd : Row w B y ly
  fx : (rx = none ∧ ∃ A, x = .slice A lx.length lx.length) ∨ rx = x.ownBlock
  fy : (ry = none ∧ ∃ A, y = .slice A ly.length ly.length) ∨ ry = y.ownBlock
  nx : ∀ k, rx = some k → va.ownBlock ≠ some k ∧ vb.ownBlock ≠ some k ∧ y.ownBlock ≠ some k
  ny : ∀ k, ry = some k → va.ownBlock ≠ some k ∧ vb.ownBlock ≠ some k ∧ x.ownBlock ≠ some k
theorem Quad.swap {w : World} {B : Nat} {va vb x y : Value} {la lb lx ly : List Int} {rx ry : Option Nat} (h : Quad w B va la vb lb x lx y ly rx ry) : Quad w B vb lb va la y ly x lx ry rx :=
  ⟨h.rb, h.ra, h.rd, h.rc, h.fy, h.fx, fun k hk => ⟨(h.ny k hk).2.1, (h.ny k hk).1, (h.ny k hk).2.2⟩, fun k hk => ⟨(h.nx k hk).2.1, (h.nx k hk).1, (h.nx k hk).2.2⟩⟩
theorem Quad.step {w w' : World} {B : Nat} {va vb x y x' : Value} {la lb lx ly lx' : List Int} {rx ry : Option Nat} (h : Quad w B va la vb lb x lx y ly rx ry) (hr : Row w' B x' lx') (hg : w.grownBy w' rx) (ho : ∀ k, x'.ownBlock = some k → rx = some k ∨ w.heap.size ≤ k) : Quad w' B va la vb lb x' lx' y ly x'.ownBlock ry := by
  have lt : ∀ {v l}, Row w B v l → ∀ k, v.ownBlock = some k → k < w.heap.size := fun hv k hk => own_lt hv k hk
  refine ⟨h.ra.grown hg (fun k hk => (h.nx k hk).1), h.rb.grown hg (fun k hk => (h.nx k hk).2.1), hr, h.rd.grown hg (fun k hk => (h.nx k hk).2.2), Or.inr rfl, h.fy, fun k hk => ?_, fun k hk => ⟨(h.ny k hk).1, (h.ny k hk).2.1, fun e => ?_⟩⟩
  · rcases ho k hk with q | q
    · exact h.nx k q
    · exact ⟨fun e => by have := lt h.ra k e; omega, fun e => by have := lt h.rb k e; omega, fun e => by have := lt h.rd k e; omega⟩
  · rcases ho k e with q | q
    · rcases h.fy with ⟨q2, _⟩ | q2
      · rw [q2] at hk; cases hk
      · exact (h.nx k q).2.2 (q2 ▸ hk)
    · rcases h.fy with ⟨q2, _⟩ | q2
      · rw [q2] at hk; cases hk
      · have := lt h.rd k (q2 ▸ hk); omega
theorem Quad.below {w w' : World} {B : Nat} {va vb x y : Value} {la lb lx ly : List Int} {rx ry : Option Nat} (h : Quad w B va la vb lb x lx y ly rx ry) (hb : Below w.heap.size w w') : Quad w' B va la vb lb x lx y ly rx ry :=
  ⟨h.ra.below hb, h.rb.below hb, h.rc.below hb, h.rd.below hb, h.fx, h.fy, h.nx, h.ny⟩
theorem Row.cell {w : World} {B : Nat} {v : Value} {l : List Int} (h : Row w B v l) (j : Nat) (hj : j < l.length) : ∃ g c, v = .slice (some ⟨g, 0, none⟩) l.length c ∧ B ≤ g ∧ w.cell? ⟨g, j, none⟩ = some (.int .u8 (rd l j)) ∧ w.frozen? ⟨g, j, none⟩ = false := by
  rcases h.2 with ⟨_, h0⟩ | ⟨g, cap, cur, rfl, hb, _⟩
  · omega
  · have h1 := World.ownsRow.cellAt h j (by omega)
    refine ⟨g, cap, rfl, hb, ?_, World.ownsRow.frozenAt h j⟩
    rw [h1]
    simp [nums, rd, List.getD, hj]
theorem Row.set {w : World} {B g c n : Nat} {l : List Int} (h : Row w B (.slice (some ⟨g, 0, none⟩) n c) l) (hn : n = l.length) (j : Nat) (x : Int) : Row (w.setCell ⟨g, j, none⟩ (.int .u8 x)) B (.slice (some ⟨g, 0, none⟩) n c) (l.set j x) := by
  subst hn
  have h1 := (World.ownsRow.stored h j (.int .u8 x)).1
  unfold Row
  rw [List.length_set]
  have e : nums .u8 (l.set j x) = (nums .u8 l).set j (.int .u8 x) := by simp [nums, List.map_set]
  rw [e]
  exact h1
end Go.Proofs.Ytjijmikpoenbcaa.Codec
/- The law's 'hand', walked: of any writer that answers Bytes with a row of its own. Conditions: those that stand in the theorem. Written in this session. -/
namespace Go.Proofs.Ytjijmikpoenbcaa.Codec
open Go.RowKit Go.Proofs.YtjijmikpoenbcaaW.PrintWords Go.Proofs.YtjijmikpoenbcaaW.PrintLast Go.Proofs.YtjijmikpoenbcaaW.PrintMore Go.Proofs.Ytjijmikpoenbcaa.Q
set_option linter.unusedVariables false
theorem all_rep {l : List Int} {n : Nat} {x : Int} (hl : l.length = n) (h : ∀ j : Nat, j < n → rd l j = x) : l = List.replicate n x := by
  apply List.ext_getElem (by simp [hl])
  intro i h1 h2
  have := h i (by omega)
  simp only [rd, List.getD, Int.toNat_natCast, List.getElem?_eq_getElem h1, Option.getD_some] at this
  simp [this]
theorem rd_rep {n i : Nat} {x : Int} (h : i < n) : rd (List.replicate n x) (i : Int) = x := by simp [rd, List.getD, h]
theorem rd_left {n m i : Nat} {x y : Int} (h : i < n) : rd (List.replicate n x ++ List.replicate m y) (i : Int) = x := by
  simp [rd, List.getD, List.getElem?_append, h]
theorem rd_right {n m i : Nat} {x y : Int} (h : ¬ i < n) (h2 : i < n + m) : rd (List.replicate n x ++ List.replicate m y) (i : Int) = y := by
  have : i - n < m := by omega
  simp [rd, List.getD, List.getElem?_append, h, this]
theorem rd_set_at {l : List Int} {i : Nat} {x : Int} {n : Nat} (hl : l.length = n) (hi : i < n) (h : ∀ j : Nat, j < i → rd l j = x) : (l.set i x).length = n ∧ ∀ j : Nat, j < i + 1 → rd (l.set i x) j = x := by
  refine ⟨by rw [List.length_set]; exact hl, fun j hj => ?_⟩
  by_cases e : i = j
  · subst e
    have : i < l.length := by omega
    simp [rd, List.getD, this]
  · have := h j (by omega)
    simp only [rd, List.getD, Int.toNat_natCast] at this ⊢
    rw [List.getElem?_set_ne e]
    exact this
theorem rep_snoc (n k : Nat) (x y : Int) : (List.replicate n x ++ List.replicate k y) ++ [y] = List.replicate n x ++ List.replicate (k + 1) y := by
  rw [List.append_assoc, ← List.replicate_succ']
set_option maxHeartbeats 8000000 in
set_option maxRecDepth 100000 in
theorem hand_calls (p : Value) (l : List Int) (w : World) (Aw : Option Addr) (cw : Nat) (hw : Kd.C (Kd.int .u8) w Aw l.length l) (hcw : l.length ≤ cw) (hl : l.length ≤ 140737488355200)
    (hask : ∀ w', Below w.heap.size w w' → Calls Try.prog 31 #[p] w' fun e w'' => ∃ A, e = .returned (.slice A l.length l.length) ∧ Row w'' w'.heap.size (.slice A l.length l.length) l ∧ Below w'.heap.size w' w'') :
    Calls Try.prog 22 #[p, .slice Aw l.length cw] w fun e w' => e = .returned (.bool true) ∧ Below w.heap.size w w' := by
  have HW := Aside0.mk hw
  have HCW := Aside0.mk hcw
  have HL := Aside0.mk hl
  have HASK := Aside0.mk hask
  clear hw hcw hask
  go_enter Try.func22, Try.ntmps22
  go_wp2_with fail
  refine (HASK.out w (Below.refl _ _)).mono ?_
  rintro e w1 ⟨Aa, rfl, hra, hb⟩
  have HB1 := Aside0.mk hb
  have HRA1 := Aside0.mk hra
  clear hra hb
  go_wp2_with fail
  refine (HASK.out w1 HB1.out).mono ?_
  rintro e w2 ⟨Ab, rfl, hrb, hb⟩
  have HAP : Aside0 (∀ k, (Value.slice Aa l.length l.length).ownBlock = some k → (Value.slice Ab l.length l.length).ownBlock ≠ some k) := ⟨fun k h1 h2 => by have h3 := own_lt HRA1.out k h1; have h4 := own_base hrb k h2; omega⟩
  have HRA2 := Aside0.mk (HRA1.out.below hb)
  have HRB2 : Aside0 (Row w2 w.heap.size (.slice Ab l.length l.length) l) := ⟨own_weaken hrb HB1.out.size⟩
  have HB2 := Aside0.mk (below_then HB1.out HB1.out.size hb)
  clear hrb hb HRA1 HB1
  go_wp2_with fail
  refine (same_calls Aa l.length l Aw cw l _ (by obtain ⟨A, c, e, _, hC⟩ := HRA2.out.len; cases e; exact hC) (Nat.le_refl _) (Kd.C_below HW.out HB2.out) HCW.out).mono ?_
  rintro e w3 ⟨rfl, hb⟩
  rw [show decide (l = l) = true from decide_eq_true rfl]
  have HRA3 := Aside0.mk (HRA2.out.below hb)
  have HRB3 := Aside0.mk (HRB2.out.below hb)
  have HB3 := Aside0.mk (below_then HB2.out HB2.out.size hb)
  clear hb HRA2 HRB2 HB2
  go_wp2_with fail
  refine (same_calls Ab l.length l Aw cw l _ (by obtain ⟨A, c, e, _, hC⟩ := HRB3.out.len; cases e; exact hC) (Nat.le_refl _) (Kd.C_below HW.out HB3.out) HCW.out).mono ?_
  rintro e w4 ⟨rfl, hb⟩
  rw [show decide (l = l) = true from decide_eq_true rfl]
  have HRA4 := Aside0.mk (HRA3.out.below hb)
  have HRB4 := Aside0.mk (HRB3.out.below hb)
  have HB4 := Aside0.mk (below_then HB3.out HB3.out.size hb)
  clear hb HRA3 HRB3 HB3
  go_wp2
  go_loopg [7] l.length (fun kq v7 w' => ∃ (i : Nat) (La Lb : List Int), v7 = .int .i64 i ∧ Aside0 (i + kq = l.length) ∧ Aside0 (La.length = l.length ∧ ∀ j : Nat, j < i → rd La j = 1) ∧ Aside0 (Lb.length = l.length ∧ ∀ j : Nat, j < i → rd Lb j = 2) ∧ Aside0 (Row w' w.heap.size (.slice Aa l.length l.length) La) ∧ Aside0 (Row w' w.heap.size (.slice Ab l.length l.length) Lb) ∧ Aside0 (Below w.heap.size w w'))
  case atStart => exact ⟨0, l, l, rfl, ⟨by omega⟩, ⟨rfl, fun j hj => by omega⟩, ⟨rfl, fun j hj => by omega⟩, HRA4, HRB4, HB4⟩
  case round =>
    clear HRA4 HRB4 HB4
    obtain ⟨i, La, Lb, rfl, HI, HLA, HLB, HRA, HRB, HB⟩ := hrel
    cases gk with
    | zero =>
      have hil : ¬ (i : Int) < l.length := by have := HI.out; omega
      have ea : La = List.replicate l.length 1 := all_rep HLA.out.1 (fun j hj => HLA.out.2 j (by have := HI.out; omega))
      have eb : Lb = List.replicate l.length 2 := all_rep HLB.out.1 (fun j hj => HLB.out.2 j (by have := HI.out; omega))
      subst ea
      subst eb
      clear HLA HLB
      go_wp2
      go_loopg [8, 9, 10] 40 (fun kq v8 v9 v10 w' => ∃ (k : Nat) (rx ry : Option Nat), v10 = .int .i64 k ∧ Aside0 (k + kq = 40) ∧ Aside0 (Quad w' w.heap.size (.slice Aa l.length l.length) (List.replicate l.length 1) (.slice Ab l.length l.length) (List.replicate l.length 2) v8 (List.replicate l.length 1 ++ List.replicate k 3) v9 (List.replicate l.length 2 ++ List.replicate k 4) rx ry) ∧ Aside0 (Below w.heap.size w w'))
      case atStart => exact ⟨0, none, none, rfl, ⟨by omega⟩, ⟨⟨HRA.out, HRB.out, by simpa using HRA.out, by simpa using HRB.out, Or.inl ⟨rfl, Aa, by simp⟩, Or.inl ⟨rfl, Ab, by simp⟩, fun k hk => by simp at hk, fun k hk => by simp at hk⟩⟩, HB⟩
      case round =>
        clear HRA HRB HB
        obtain ⟨k, rx, ry, rfl, HK, HQ, HB⟩ := hrel
        cases gk with
        | zero =>
          have hk40 : k = 40 := by have := HK.out; omega
          subst hk40
          go_wp2
          go_loopg [11] (l.length + 40) (fun kq v11 w' => ∃ (i : Nat), v11 = .int .i64 i ∧ Aside0 (i + kq = l.length + 40) ∧ Aside0 (Quad w' w.heap.size (.slice Aa l.length l.length) (List.replicate l.length 1) (.slice Ab l.length l.length) (List.replicate l.length 2) u8 (List.replicate l.length 1 ++ List.replicate 40 3) u9 (List.replicate l.length 2 ++ List.replicate 40 4) rx ry) ∧ Aside0 (Below w.heap.size w w'))
          case atStart => exact ⟨0, rfl, ⟨by omega⟩, HQ, HB⟩
          case round =>
            clear HQ HB
            obtain ⟨i3, rfl, HI3, HQ, HB⟩ := hrel
            cases gk with
            | zero =>
              have hil3 : ¬ (i3 : Int) < l.length + 40 := by have := HI3.out; omega
              go_wp2_with fail
              refine (HASK.out _ HB.out).mono ?_
              rintro e w5 ⟨Ac, rfl, hrc, hb⟩
              have HB5 := Aside0.mk (below_then HB.out HB.out.size hb)
              have HRC := Aside0.mk hrc
              clear hrc hb
              go_wp2_with fail
              refine (same_calls Ac l.length l Aw cw l _ (by obtain ⟨A, c, e, _, hC⟩ := HRC.out.len; cases e; exact hC) (Nat.le_refl _) (Kd.C_below HW.out HB5.out) HCW.out).mono ?_
              rintro e w6 ⟨rfl, hb⟩
              rw [show decide (l = l) = true from decide_eq_true rfl]
              have HB6 := Aside0.mk (below_then HB5.out HB5.out.size hb)
              clear hb
              go_wp2
              go_ret
              exact ⟨rfl, HB6.out⟩
            | succ k3 =>
              have hil3 : (i3 : Int) < l.length + 40 := by have := HI3.out; omega
              have hlx : (List.replicate l.length (1 : Int) ++ List.replicate 40 3).length = l.length + 40 := by simp
              have hly : (List.replicate l.length (2 : Int) ++ List.replicate 40 4).length = l.length + 40 := by simp
              obtain ⟨gx, cx, ex, _, hx, _⟩ := HQ.out.rc.cell i3 (by rw [hlx]; omega)
              obtain ⟨gy, cy, ey, _, hy, _⟩ := HQ.out.rd.cell i3 (by rw [hly]; omega)
              rw [hlx] at ex
              rw [hly] at ey
              subst ex
              subst ey
              have hxi : (i3 : Int) < ((l.length + 40 : Nat) : Int) := by omega
              by_cases hi : i3 < l.length
              · rw [rd_left hi] at hx
                rw [rd_left hi] at hy
                obtain ⟨ga, ca, ea, _, ha, _⟩ := HQ.out.ra.cell i3 (by simpa using hi)
                obtain ⟨gb, cb, eb, _, hb, _⟩ := HQ.out.rb.cell i3 (by simpa using hi)
                rw [rd_rep hi] at ha hb
                simp only [Value.slice.injEq] at ea eb
                obtain ⟨rfl, ea1, ea2⟩ := ea
                obtain ⟨rfl, eb1, eb2⟩ := eb
                clear ea1 ea2 eb1 eb2
                have hii : (i3 : Int) < l.length := by omega
                have hni : ¬ (l.length : Int) ≤ i3 := by omega
                clear hlx hly hi
                go_wp2
                go_roundg k3
                case measure => omega
                case rel => exact ⟨i3 + 1, by first | rfl | simp, ⟨by have := HI3.out; omega⟩, HQ, HB⟩
              · rw [rd_right hi (by omega)] at hx
                rw [rd_right hi (by omega)] at hy
                have hii : ¬ (i3 : Int) < l.length := by omega
                have hni : (l.length : Int) ≤ i3 := by omega
                clear hlx hly hi
                go_wp2
                go_roundg k3
                case measure => omega
                case rel => exact ⟨i3 + 1, by first | rfl | simp, ⟨by have := HI3.out; omega⟩, HQ, HB⟩
        | succ kk =>
          have hk40 : (k : Int) < 40 := by have := HK.out; omega
          go_wp2_with (first | ((with_reducible refine gate_builtin (b := .append) (xs := #[.tmp 44, .tmp 45]) rfl ?_); at_builtin; refine app_one rfl (.tmp 44) (.tmp 45) rfl w.heap.size _ _ 3 rx rfl rfl HQ.out.rc HQ.out.fx HB.out.size (by have := HK.out; have := HL.out; simp; omega) ?_; intro x1 w5 h1 h2 h3; rw [rep_snoc] at h1; have HQ5 := Aside0.mk (HQ.out.step h1 h2 h3); have HB5 : Aside0 (Below w.heap.size w w5) := ⟨HB.out.trans ((Chg.of_grown h2).below HB.out.size (fun q hq => by rcases HQ.out.fx with ⟨e, _⟩ | e <;> rw [e] at hq; cases hq; exact own_base HQ.out.rc q hq.symm))⟩; clear h1 h2 h3 HQ HB) | ((with_reducible refine gate_builtin (b := .append) (xs := #[.tmp 47, .tmp 48]) rfl ?_); at_builtin; refine app_one rfl (.tmp 47) (.tmp 48) rfl w.heap.size _ _ 4 ry rfl rfl HQ5.out.rd HQ5.out.fy HB5.out.size (by have := HK.out; have := HL.out; simp; omega) ?_; intro y1 w6 h1 h2 h3; rw [rep_snoc] at h1; have HQ6 := Aside0.mk (HQ5.out.swap.step h1 h2 h3).swap; have HB6 : Aside0 (Below w.heap.size w w6) := ⟨HB5.out.trans ((Chg.of_grown h2).below HB5.out.size (fun q hq => by rcases HQ5.out.fy with ⟨e, _⟩ | e <;> rw [e] at hq; cases hq; exact own_base HQ5.out.rd q hq.symm))⟩; clear h1 h2 h3 HQ5 HB5))
          go_roundg kk
          case measure => omega
          case rel => exact ⟨k + 1, _, _, by first | rfl | simp, ⟨by have := HK.out; omega⟩, HQ6, HB6⟩
    | succ k =>
      have hi : i < l.length := by have := HI.out; omega
      have hil : (i : Int) < l.length := by omega
      obtain ⟨ga, ca, ea, hga, ha, fa⟩ := HRA.out.cell i (by rw [HLA.out.1]; exact hi)
      obtain ⟨gb, cb, eb, hgb, hb, fb⟩ := HRB.out.cell i (by rw [HLB.out.1]; exact hi)
      simp only [Value.slice.injEq] at ea eb
      obtain ⟨rfl, ea1, ea2⟩ := ea
      obtain ⟨rfl, eb1, eb2⟩ := eb
      clear ea1 ea2 eb1 eb2
      have hne : ga ≠ gb := fun e => HAP.out ga rfl (by rw [e]; rfl)
      have hne2 : gb ≠ ga := fun e => hne e.symm
      have HNE := Aside0.mk hne
      have HGA := Aside0.mk hga
      have HGB := Aside0.mk hgb
      clear hga hgb
      go_wp2
      go_roundg k
      case measure => omega
      case rel => exact ⟨i + 1, La.set i 1, Lb.set i 2, by first | rfl | simp, ⟨by have := HI.out; omega⟩, ⟨rd_set_at HLA.out.1 hi HLA.out.2⟩, ⟨rd_set_at HLB.out.1 hi HLB.out.2⟩, ⟨(HRA.out.set HLA.out.1.symm i 1).move (fun k hk => Below.heap_setCell _ _ _ k (by cases hk; exact HNE.out))⟩, ⟨(HRB.out.move (fun k hk => Below.heap_setCell _ _ _ k (by cases hk; exact HNE.out.symm))).set HLB.out.1.symm i 2⟩, ⟨below_set (below_set HB.out HGA.out) HGB.out⟩⟩
end Go.Proofs.Ytjijmikpoenbcaa.Codec
/- A thing's form by the document is what is put. Written by wip/gen/form.py. -/
namespace Go.Proofs.Ytjijmikpoenbcaa.Codec
open Go.RowKit Go.Proofs.YtjijmikpoenbcaaW.PrintWords Go.Proofs.YtjijmikpoenbcaaW.PrintLast Go.Proofs.YtjijmikpoenbcaaW.PrintMore Go.Proofs.Ytjijmikpoenbcaa.F
set_option linter.unusedVariables false
theorem row_of_R {w : World} {B : Nat} {ok : Nat → Prop} {v : Value} {l : List Int} (h : Kd.R (Kd.int .u8) 5 w B ok v l) : Row w B v l := Kd.own_of_R h
theorem var_ref : ∀ (m k n : Nat) (l : List Int), n < 128 ^ (m + 1) → n < 18446744073709551616 → m < k → l.length + m + 1 ≤ 1000 → cabstandref02_Var.l0 k (n : Int) l = some (l ++ varB n) := by
  intro m
  induction m with
  | zero =>
    intro k n l h1 h2 hk hl
    obtain ⟨k, rfl⟩ : ∃ j, k = j + 1 := ⟨k - 1, by omega⟩
    rw [cabstandref02_Var.l0, if_neg (by omega), if_pos (by omega), varB_small (by omega)]
    have : (n : Int) % 256 = n := by omega
    rw [this]
  | succ m ih =>
    intro k n l h1 h2 hk hl
    obtain ⟨k, rfl⟩ : ∃ j, k = j + 1 := ⟨k - 1, by omega⟩
    by_cases h : n < 128
    · rw [cabstandref02_Var.l0, if_neg (by omega), if_pos (by omega), varB_small h]
      have : (n : Int) % 256 = n := by omega
      rw [this]
    · have e1 : Int.tdiv (n : Int) 128 = ((n / 128 : Nat) : Int) := by rw [Int.tdiv_eq_ediv_of_nonneg (by omega)]; omega
      have e2 : Int.tmod (n : Int) 128 = ((n % 128 : Nat) : Int) := by rw [Int.tmod_eq_emod_of_nonneg (by omega)]; omega
      have e3 : IntKind.u64.wrap (((n / 128 : Nat) : Int)) = ((n / 128 : Nat) : Int) := wrap_u64_nonneg (by omega) (by omega)
      have e4 : IntKind.u64.wrap (128 + ((n % 128 : Nat) : Int)) % 256 = ((n % 128 + 128 : Nat) : Int) := by rw [wrap_u64_nonneg (by omega) (by omega)]; omega
      rw [cabstandref02_Var.l0, if_pos (by omega), if_pos (by omega), e1, e2, e3, e4, ih k (n / 128) _ (by rw [Nat.pow_succ] at h1; exact Nat.div_lt_of_lt_mul (by rw [Nat.mul_comm]; exact h1)) (by omega) (by omega) (by simp; omega), varB_more h h2]
      simp
theorem var_is (n : Nat) (hn : n < 18446744073709551616) : cabstandref02_Var.f 12 (n : Int) = some (varB n) := by
  unfold cabstandref02_Var.f
  rw [var_ref 10 12 n [] (Nat.lt_trans hn (by decide)) hn (by omega) (by simp)]
  rfl
theorem fixedB_snoc : ∀ k n, fixedB (k + 1) n = fixedB k (n / 256) ++ [((n % 256 : Nat) : Int)] := by
  intro k
  induction k with
  | zero => intro n; simp [fixedB]
  | succ k ih =>
    intro n
    rw [fixedB, ih n, fixedB, List.cons_append]
    congr 2
    rw [Nat.div_div_eq_div_mul, Nat.pow_succ, Nat.mul_comm 256]
theorem fixed_ref : ∀ (m k n : Nat) (l : List Int), n < 18446744073709551616 → m ≤ l.length → l.length ≤ 1000 → m < k →
    cabstandref02_Fixed.l0 k (n : Int) l ((m : Int) - 1) = if n / 256 ^ m > 0 then some ([], 1) else some (fixedB m n ++ l.drop m, 0) := by
  intro m
  induction m with
  | zero =>
    intro k n l h1 hl h1000 hk
    obtain ⟨k, rfl⟩ : ∃ j, k = j + 1 := ⟨k - 1, by omega⟩
    rw [cabstandref02_Fixed.l0, if_neg (by omega)]
    by_cases h : n > 0
    · rw [if_pos (by omega), if_pos (by simpa using h)]
    · rw [if_neg (by omega), if_neg (by simpa using h)]
      simp [fixedB]
  | succ m ih =>
    intro k n l h1 hl h1000 hk
    obtain ⟨k, rfl⟩ : ∃ j, k = j + 1 := ⟨k - 1, by omega⟩
    have e0 : ((m + 1 : Nat) : Int) - 1 = (m : Int) := by omega
    have e1 : Int.tdiv (n : Int) 256 = ((n / 256 : Nat) : Int) := by rw [Int.tdiv_eq_ediv_of_nonneg (by omega)]; omega
    have e2 : Int.tmod (n : Int) 256 = ((n % 256 : Nat) : Int) := by rw [Int.tmod_eq_emod_of_nonneg (by omega)]; omega
    have e3 : IntKind.u64.wrap (((n / 256 : Nat) : Int)) = ((n / 256 : Nat) : Int) := wrap_u64_nonneg (by omega) (by omega)
    have e4 : ((n % 256 : Nat) : Int) % 256 = ((n % 256 : Nat) : Int) := by omega
    have e5 : wrap64 ((m : Int) - 1) = (m : Int) - 1 := by unfold wrap64; omega
    rw [e0, cabstandref02_Fixed.l0, if_pos (by omega), if_pos (by omega), if_pos (by omega), e1, e2, e3, e4, e5, Int.toNat_natCast, ih k (n / 256) _ (by omega) (by rw [List.length_set]; omega) (by rw [List.length_set]; exact h1000) (by omega), Nat.div_div_eq_div_mul, Nat.pow_succ, Nat.mul_comm (256 ^ m), fixedB_snoc]
    have e6 : (l.set m ((n % 256 : Nat) : Int)).drop m = ((n % 256 : Nat) : Int) :: l.drop (m + 1) := by
      rw [List.drop_eq_getElem_cons (by rw [List.length_set]; omega), List.getElem_set_self, List.drop_set_of_lt (by omega)]
    rw [e6, List.append_assoc]
    rfl
theorem fixed_is (n : Nat) (wd : Int) (hn : n < 18446744073709551616) : cabstandref02_Fixed.f 20 (n : Int) wd = some (if wide n wd = true then ([], 1) else (fixedB wd.toNat n, 0)) := by
  unfold cabstandref02_Fixed.f
  by_cases h1 : wd < 1
  · have hw : wide n wd = true := by unfold wide; simp [h1]
    rw [if_pos h1, hw, if_pos rfl]
    simp [cabstandref02_Fixed.j0]
  · rw [if_neg h1]
    by_cases h2 : 8 < wd
    · have hw : wide n wd = true := by unfold wide; simp [h2]
      rw [hw, if_pos rfl, decide_eq_true (by omega)]
      simp [cabstandref02_Fixed.j0]
    · obtain ⟨m, rfl⟩ := Int.eq_ofNat_of_zero_le (show 0 ≤ wd by omega)
      have e5 : wrap64 ((m : Int) - 1) = (m : Int) - 1 := by unfold wrap64; omega
      have hr := fixed_ref m 19 n (List.replicate m 0) hn (by simp) (by simp; omega) (by omega)
      rw [decide_eq_false (by omega), cabstandref02_Fixed.j0, if_neg (by simp), if_pos (by omega), if_pos (by omega), e5, Int.toNat_natCast, hr]
      have hp : (2 : Nat) ^ (8 * (m : Int)).toNat = 256 ^ m := by rw [show (8 * (m : Int)).toNat = 8 * m by omega, Nat.pow_mul]
      have e8 : (256 : Nat) ^ 8 = 18446744073709551616 := by decide
      by_cases h8 : m < 8
      · by_cases hz : n / 256 ^ m > 0
        · have hw : wide n (m : Int) = true := by
            unfold wide
            rw [hp]
            have : n / 256 ^ m ≠ 0 := Nat.pos_iff_ne_zero.mp hz
            simp only [decide_eq_true this, decide_eq_true (show (m : Int) < 8 by omega), Bool.and_self, Bool.or_true]
          rw [if_pos hz, hw, if_pos rfl]
        · have hw : wide n (m : Int) = false := by
            unfold wide
            rw [hp]
            have : ¬ (n / 256 ^ m ≠ 0) := fun q => hz (Nat.pos_of_ne_zero q)
            simp only [decide_eq_false this, decide_eq_false h1, decide_eq_false h2, Bool.and_false, Bool.or_self]
          rw [if_neg hz, hw, if_neg (by simp)]
          simp
      · have hm : m = 8 := by omega
        subst hm
        have hz : ¬ (n / 256 ^ 8 > 0) := by rw [e8, Nat.div_eq_of_lt hn]; omega
        have hw : wide n ((8 : Nat) : Int) = false := by
          unfold wide
          simp
        rw [if_neg hz, hw, if_neg (by simp)]
        simp
theorem turned_is (i : Int) (h : -9223372036854775808 ≤ i ∧ i ≤ 9223372036854775807) : cabstandref02_Turned.f i = some (turned i : Int) := by
  obtain ⟨h0, h1⟩ := h
  unfold cabstandref02_Turned.f turned
  by_cases hi : 0 ≤ i
  · rw [if_pos hi, if_pos hi, wrap_u64_nonneg hi (by omega), wrap_u64_nonneg (by omega) (by omega)]
    congr 1
    omega
  · have e1 : wrap64 (i + 1) = i + 1 := by unfold wrap64; omega
    have e2 : wrap64 (-(i + 1)) = -(i + 1) := by unfold wrap64; omega
    have e3 : IntKind.u64.wrap (-(i + 1)) = -(i + 1) := wrap_u64_nonneg (by omega) (by omega)
    have e4 : IntKind.u64.wrap (2 * -(i + 1)) = 2 * -(i + 1) := wrap_u64_nonneg (by omega) (by omega)
    have e5 : IntKind.u64.wrap (2 * -(i + 1) + 1) = 2 * -(i + 1) + 1 := wrap_u64_nonneg (by omega) (by omega)
    rw [if_neg (by omega), if_neg hi, e1, e2, e3, e4, e5]
    congr 1
    omega
theorem half_is (x : Int) : cabstandref02_Half.f x = some [x % 65536 / 256, x % 256] := by
  unfold cabstandref02_Half.f
  have e0 : IntKind.u16.wrap x = x % 65536 := IntKind.wrap_u16 x
  have e1 : Int.tdiv (x % 65536) 256 = x % 65536 / 256 := Int.tdiv_eq_ediv_of_nonneg (by omega)
  have e2 : Int.tmod (x % 65536) 256 = x % 65536 % 256 := Int.tmod_eq_emod_of_nonneg (by omega)
  have e3 : IntKind.u16.wrap (x % 65536 / 256) = x % 65536 / 256 := by rw [IntKind.wrap_u16]; omega
  rw [e0, e1, e2, e3]
  have e4 : x % 65536 / 256 % 256 = x % 65536 / 256 := by omega
  have e5 : x % 65536 % 256 % 256 = x % 256 := by omega
  rw [e4, e5]
theorem point_is (x y : Int) : cabstandref02_Point.f x y = some (pointB x y) := by
  unfold cabstandref02_Point.f
  rw [half_is, half_is, Option.bind_some, Option.bind_some, if_pos (by simp), if_pos (by simp), if_pos (by simp), if_pos (by simp)]
  rfl
theorem text_is (s : ByteArray) (hs : s.size ≤ 140737488355200) : cabstandref02_Text.f 12 s = some (varB s.size ++ bytesOf s) := by
  have hl := varB_len (n := s.size) (by omega)
  unfold cabstandref02_Text.f
  rw [wrap_u64_nonneg (by omega) (by omega), var_is _ (by omega), Option.bind_some, if_pos (by omega)]
set_option maxHeartbeats 8000000 in
set_option maxRecDepth 100000 in
theorem form_byte (w : World) (who kind n i wd b0 b1 b2 b3 b4 b5 b6 b7 x y : Int) (A : Option Addr) (m c : Nat)  (hk : kindOf kind = 0) :
    Calls Try.prog 20 #[.agg (thing who kind n i wd b0 b1 b2 b3 b4 b5 b6 b7 x y (.slice A m c))] w fun e w' => ∃ v, e = .returned (.tuple #[v, .int .i64 0]) ∧ Row w' w.heap.size v ([n % 256]) ∧ Below w.heap.size w w' := by
  have HK := Aside0.mk hk
  have HB := Aside0.mk (below_alloc (Below.refl w.heap.size w) (.cells #[Value.int .i64 who, Value.int .i64 kind, Value.int .u64 n, Value.int .i64 i, Value.int .i64 wd, Value.int .u8 b0, Value.int .u8 b1, Value.int .u8 b2, Value.int .u8 b3, Value.int .u8 b4, Value.int .u8 b5, Value.int .u8 b6, Value.int .u8 b7, Value.int .i16 x, Value.int .i16 y, .slice A m c] 46))
  clear hk
  unfold thing
  go_enter Try.func20, Try.ntmps20
  go_wp2_with fail
  refine (round7_calls kind _).mono ?_
  rintro e w1 ⟨rfl, rfl⟩
  rw [HK.out]
  go_wp2
  go_ret2
  exact ⟨_, rfl, ⟨rfl, Or.inr ⟨w.heap.size + 1, 1, #[.int .u8 (n % 256)], rfl, Nat.le_succ _, (by have h := blk_new (w.alloc (.cells #[Value.int .i64 who, Value.int .i64 kind, Value.int .u64 n, Value.int .i64 i, Value.int .i64 wd, Value.int .u8 b0, Value.int .u8 b1, Value.int .u8 b2, Value.int .u8 b3, Value.int .u8 b4, Value.int .u8 b5, Value.int .u8 b6, Value.int .u8 b7, Value.int .i16 x, Value.int .i16 y, .slice A m c] 46)) (.cells #[.int .u8 (n % 256)] 5); rw [World.size_alloc] at h; exact h), Nat.le_refl _, by decide, rfl, rfl⟩⟩, below_alloc HB.out _⟩
set_option maxHeartbeats 8000000 in
set_option maxRecDepth 100000 in
theorem form_fixed (w : World) (who kind n i wd b0 b1 b2 b3 b4 b5 b6 b7 x y : Int) (A : Option Addr) (m c : Nat) (nn : Nat) (hnn : nn < 18446744073709551616) (hn : n = nn) (hk : kindOf kind = 1) :
    Calls Try.prog 20 #[.agg (thing who kind n i wd b0 b1 b2 b3 b4 b5 b6 b7 x y (.slice A m c))] w fun e w' => ∃ v, e = .returned (.tuple #[v, .int .i64 (if wide nn wd = true then (([] : List Int), (1 : Int)) else (fixedB wd.toNat nn, 0)).2]) ∧ Row w' w.heap.size v ((if wide nn wd = true then (([] : List Int), (1 : Int)) else (fixedB wd.toNat nn, 0)).1) ∧ Below w.heap.size w w' := by
  subst hn
  have HNN := Aside0.mk hnn
  clear hnn
  obtain ⟨fl, fe, hf⟩ : ∃ fl fe, (if wide nn wd = true then (([] : List Int), (1 : Int)) else (fixedB wd.toNat nn, 0)) = (fl, fe) := ⟨_, _, rfl⟩
  rw [hf]
  have HF : Aside0 (cabstandref02_Fixed.f 20 (nn : Int) wd = some (fl, fe)) := ⟨by rw [fixed_is nn wd HNN.out, hf]⟩
  clear hf
  have HK := Aside0.mk hk
  have HB := Aside0.mk (below_alloc (Below.refl w.heap.size w) (.cells #[Value.int .i64 who, Value.int .i64 kind, Value.int .u64 nn, Value.int .i64 i, Value.int .i64 wd, Value.int .u8 b0, Value.int .u8 b1, Value.int .u8 b2, Value.int .u8 b3, Value.int .u8 b4, Value.int .u8 b5, Value.int .u8 b6, Value.int .u8 b7, Value.int .i16 x, Value.int .i16 y, .slice A m c] 46))
  clear hk
  unfold thing
  go_enter Try.func20, Try.ntmps20
  go_wp2_with fail
  refine (round7_calls kind _).mono ?_
  rintro e w1 ⟨rfl, rfl⟩
  rw [HK.out]
  go_wp2_with fail
  refine (cabstandref02_Fixed.calls 20 (nn : Int) wd fl fe _ HF.out).mono ?_
  rintro e w2 ⟨v, rfl, hr, hb⟩
  have HB2 := Aside0.mk (below_then HB.out HB.out.size hb)
  have HR := Aside0.mk (own_weaken (row_of_R hr) HB.out.size)
  clear hb hr
  go_wp2
  go_ret2
  exact ⟨_, rfl, HR.out, HB2.out⟩
set_option maxHeartbeats 8000000 in
set_option maxRecDepth 100000 in
theorem form_var (w : World) (who kind n i wd b0 b1 b2 b3 b4 b5 b6 b7 x y : Int) (A : Option Addr) (m c : Nat) (nn : Nat) (hnn : nn < 18446744073709551616) (hn : n = nn) (hk : kindOf kind = 2) :
    Calls Try.prog 20 #[.agg (thing who kind n i wd b0 b1 b2 b3 b4 b5 b6 b7 x y (.slice A m c))] w fun e w' => ∃ v, e = .returned (.tuple #[v, .int .i64 0]) ∧ Row w' w.heap.size v (varB nn) ∧ Below w.heap.size w w' := by
  subst hn
  have HNN := Aside0.mk hnn
  clear hnn
  have HK := Aside0.mk hk
  have HB := Aside0.mk (below_alloc (Below.refl w.heap.size w) (.cells #[Value.int .i64 who, Value.int .i64 kind, Value.int .u64 nn, Value.int .i64 i, Value.int .i64 wd, Value.int .u8 b0, Value.int .u8 b1, Value.int .u8 b2, Value.int .u8 b3, Value.int .u8 b4, Value.int .u8 b5, Value.int .u8 b6, Value.int .u8 b7, Value.int .i16 x, Value.int .i16 y, .slice A m c] 46))
  clear hk
  unfold thing
  go_enter Try.func20, Try.ntmps20
  go_wp2_with fail
  refine (round7_calls kind _).mono ?_
  rintro e w1 ⟨rfl, rfl⟩
  rw [HK.out]
  go_wp2_with fail
  refine (cabstandref02_Var.calls 12 (nn : Int) (varB nn) _ (var_is nn HNN.out)).mono ?_
  rintro e w2 ⟨v, rfl, hr, hb⟩
  have HB2 := Aside0.mk (below_then HB.out HB.out.size hb)
  have HR := Aside0.mk (own_weaken (row_of_R hr) HB.out.size)
  clear hb hr
  go_wp2
  go_ret2
  exact ⟨_, rfl, HR.out, HB2.out⟩
set_option maxHeartbeats 8000000 in
set_option maxRecDepth 100000 in
theorem form_int (w : World) (who kind n i wd b0 b1 b2 b3 b4 b5 b6 b7 x y : Int) (A : Option Addr) (m c : Nat) (hi : -9223372036854775808 ≤ i ∧ i ≤ 9223372036854775807) (hk : kindOf kind = 3) :
    Calls Try.prog 20 #[.agg (thing who kind n i wd b0 b1 b2 b3 b4 b5 b6 b7 x y (.slice A m c))] w fun e w' => ∃ v, e = .returned (.tuple #[v, .int .i64 0]) ∧ Row w' w.heap.size v (varB (turned i)) ∧ Below w.heap.size w w' := by
  have HI := Aside0.mk hi
  clear hi
  have HK := Aside0.mk hk
  have HB := Aside0.mk (below_alloc (Below.refl w.heap.size w) (.cells #[Value.int .i64 who, Value.int .i64 kind, Value.int .u64 n, Value.int .i64 i, Value.int .i64 wd, Value.int .u8 b0, Value.int .u8 b1, Value.int .u8 b2, Value.int .u8 b3, Value.int .u8 b4, Value.int .u8 b5, Value.int .u8 b6, Value.int .u8 b7, Value.int .i16 x, Value.int .i16 y, .slice A m c] 46))
  clear hk
  unfold thing
  go_enter Try.func20, Try.ntmps20
  go_wp2_with fail
  refine (round7_calls kind _).mono ?_
  rintro e w1 ⟨rfl, rfl⟩
  rw [HK.out]
  go_wp2_with fail
  refine (cabstandref02_Turned.calls i (turned i : Int) _ (turned_is i HI.out)).mono ?_
  rintro e w2 ⟨rfl, nq, rfl⟩
  have HB2 := Aside0.mk (pw_below_drewN HB.out nq)
  generalize World.drewN _ nq = w2 at HB2 ⊢
  go_wp2_with fail
  refine (cabstandref02_Var.calls 12 ((turned i : Nat) : Int) (varB (turned i)) _ (var_is _ (turned_lt i HI.out.1 HI.out.2))).mono ?_
  rintro e w3 ⟨v, rfl, hr, hb⟩
  have HB3 := Aside0.mk (below_then HB2.out HB2.out.size hb)
  have HR := Aside0.mk (own_weaken (row_of_R hr) HB2.out.size)
  clear hb hr
  go_wp2
  go_ret2
  exact ⟨_, rfl, HR.out, HB3.out⟩
set_option maxHeartbeats 8000000 in
set_option maxRecDepth 100000 in
theorem form_id (w : World) (who kind n i wd b0 b1 b2 b3 b4 b5 b6 b7 x y : Int) (A : Option Addr) (m c : Nat)  (hk : kindOf kind = 4) :
    Calls Try.prog 20 #[.agg (thing who kind n i wd b0 b1 b2 b3 b4 b5 b6 b7 x y (.slice A m c))] w fun e w' => ∃ v, e = .returned (.tuple #[v, .int .i64 0]) ∧ Row w' w.heap.size v ([b0, b1, b2, b3, b4, b5, b6, b7]) ∧ Below w.heap.size w w' := by
  have HK := Aside0.mk hk
  have HB := Aside0.mk (below_alloc (Below.refl w.heap.size w) (.cells #[Value.int .i64 who, Value.int .i64 kind, Value.int .u64 n, Value.int .i64 i, Value.int .i64 wd, Value.int .u8 b0, Value.int .u8 b1, Value.int .u8 b2, Value.int .u8 b3, Value.int .u8 b4, Value.int .u8 b5, Value.int .u8 b6, Value.int .u8 b7, Value.int .i16 x, Value.int .i16 y, .slice A m c] 46))
  clear hk
  unfold thing
  go_enter Try.func20, Try.ntmps20
  go_wp2_with fail
  refine (round7_calls kind _).mono ?_
  rintro e w1 ⟨rfl, rfl⟩
  rw [HK.out]
  have HBK := Aside0.mk (blk_new w (.cells #[Value.int .i64 who, Value.int .i64 kind, Value.int .u64 n, Value.int .i64 i, Value.int .i64 wd, Value.int .u8 b0, Value.int .u8 b1, Value.int .u8 b2, Value.int .u8 b3, Value.int .u8 b4, Value.int .u8 b5, Value.int .u8 b6, Value.int .u8 b7, Value.int .i16 x, Value.int .i16 y, .slice A m c] 46))
  go_wp2
  go_loopg [4, 5] 8 (fun kq v4 v5 w' => ∃ (k : Nat), v5 = .int .i64 k ∧ Aside0 (k + kq = 8) ∧ Aside0 (Row w' w.heap.size v4 ([b0, b1, b2, b3, b4, b5, b6, b7].take k)) ∧ Aside0 (Below w.heap.size w w') ∧ Aside0 (w'.heap[w.heap.size]? = some (.cells #[Value.int .i64 who, Value.int .i64 kind, Value.int .u64 n, Value.int .i64 i, Value.int .i64 wd, Value.int .u8 b0, Value.int .u8 b1, Value.int .u8 b2, Value.int .u8 b3, Value.int .u8 b4, Value.int .u8 b5, Value.int .u8 b6, Value.int .u8 b7, Value.int .i16 x, Value.int .i16 y, .slice A m c] 46 (0, 0))) ∧ Aside0 (v4.ownBlock ≠ some w.heap.size))
  case atStart => exact ⟨0, rfl, ⟨by omega⟩, ⟨World.ownsRow_nil _ _ _ _⟩, HB, HBK, ⟨by simp [Value.ownBlock]⟩⟩
  case round =>
    clear HB HBK
    obtain ⟨k, rfl, HKQ, HR, HB, HBK, HNE⟩ := hrel
    cases gk with
    | zero =>
      have hk8 : k = 8 := by have := HKQ.out; omega
      subst hk8
      obtain ⟨A4, c4, e4, _⟩ := HR.out.len
      subst e4
      go_wp2
      go_ret2
      exact ⟨_, rfl, HR.out, HB.out⟩
    | succ kk =>
      have hk8 : (k : Int) < 8 := by have := HKQ.out; omega
      obtain ⟨A4, c4, e4, _⟩ := HR.out.len
      subst e4
      have hcell : wr.cell? ⟨w.heap.size, 5 + k, none⟩ = some (.int .u8 (rd [b0, b1, b2, b3, b4, b5, b6, b7] k)) := by
        rw [blk_cell HBK.out]
        have h8 : k < 8 := by omega
        match k, h8 with
        | 0, _ => rfl
        | 1, _ => rfl
        | 2, _ => rfl
        | 3, _ => rfl
        | 4, _ => rfl
        | 5, _ => rfl
        | 6, _ => rfl
        | 7, _ => rfl
      have HTK : Aside0 ([b0, b1, b2, b3, b4, b5, b6, b7].take k ++ [rd [b0, b1, b2, b3, b4, b5, b6, b7] k] = [b0, b1, b2, b3, b4, b5, b6, b7].take (k + 1)) := ⟨by
        have h8 : k < 8 := by omega
        match k, h8 with
        | 0, _ => rfl
        | 1, _ => rfl
        | 2, _ => rfl
        | 3, _ => rfl
        | 4, _ => rfl
        | 5, _ => rfl
        | 6, _ => rfl
        | 7, _ => rfl⟩
      obtain ⟨bk, hbk⟩ : ∃ bk, bk = rd [b0, b1, b2, b3, b4, b5, b6, b7] k := ⟨_, rfl⟩
      rw [← hbk] at hcell HTK
      clear hbk
      go_wp2_with ((with_reducible refine gate_builtin (b := .append) (xs := #[.tmp 41, .tmp 46]) rfl ?_); at_builtin; refine app_one rfl (.tmp 41) (.tmp 46) rfl w.heap.size _ _ bk _ rfl rfl HR.out (Or.inr rfl) HB.out.size (by simp; omega) ?_; intro x1 w5 h1 h2 h3; rw [HTK.out] at h1; have HR5 := Aside0.mk h1; have HB5 : Aside0 (Below w.heap.size w w5) := ⟨HB.out.trans ((Chg.of_grown h2).below HB.out.size (fun q hq => own_base HR.out q hq.symm))⟩; have HBK5 := Aside0.mk (blk_grown HBK.out h2 (fun e => HNE.out e.symm)); have HNE5 : Aside0 (x1.ownBlock ≠ some w.heap.size) := ⟨fun e => by rcases h3 _ e with q | q; exact HNE.out q; have := blk_lt HBK.out; omega⟩; clear h1 h2 h3 HR HB HBK HNE)
      go_roundg kk
      case measure => omega
      case rel => exact ⟨k + 1, by first | rfl | simp, ⟨by have := HKQ.out; omega⟩, HR5, HB5, HBK5, HNE5⟩
set_option maxHeartbeats 8000000 in
set_option maxRecDepth 100000 in
theorem form_point (w : World) (who kind n i wd b0 b1 b2 b3 b4 b5 b6 b7 x y : Int) (A : Option Addr) (m c : Nat)  (hk : kindOf kind = 5) :
    Calls Try.prog 20 #[.agg (thing who kind n i wd b0 b1 b2 b3 b4 b5 b6 b7 x y (.slice A m c))] w fun e w' => ∃ v, e = .returned (.tuple #[v, .int .i64 0]) ∧ Row w' w.heap.size v (pointB x y) ∧ Below w.heap.size w w' := by
  have HK := Aside0.mk hk
  have HB := Aside0.mk (below_alloc (Below.refl w.heap.size w) (.cells #[Value.int .i64 who, Value.int .i64 kind, Value.int .u64 n, Value.int .i64 i, Value.int .i64 wd, Value.int .u8 b0, Value.int .u8 b1, Value.int .u8 b2, Value.int .u8 b3, Value.int .u8 b4, Value.int .u8 b5, Value.int .u8 b6, Value.int .u8 b7, Value.int .i16 x, Value.int .i16 y, .slice A m c] 46))
  clear hk
  unfold thing
  go_enter Try.func20, Try.ntmps20
  go_wp2_with fail
  refine (round7_calls kind _).mono ?_
  rintro e w1 ⟨rfl, rfl⟩
  rw [HK.out]
  go_wp2_with fail
  refine (cabstandref02_Point.calls x y (pointB x y) _ (point_is x y)).mono ?_
  rintro e w2 ⟨v, rfl, hr, hb⟩
  have HB2 := Aside0.mk (below_then HB.out HB.out.size hb)
  have HR := Aside0.mk (own_weaken (row_of_R hr) HB.out.size)
  clear hb hr
  go_wp2
  go_ret2
  exact ⟨_, rfl, HR.out, HB2.out⟩
set_option maxHeartbeats 8000000 in
set_option maxRecDepth 100000 in
theorem form_text (w : World) (who kind n i wd b0 b1 b2 b3 b4 b5 b6 b7 x y : Int) (A : Option Addr) (m c : Nat) (bs : List Int) (hm : m = bs.length) (hbs : Kd.C (Kd.int .u8) w A bs.length bs) (hby : IsBytes bs) (hl : bs.length ≤ 140737488355200) (hk : kindOf kind = 6) :
    Calls Try.prog 20 #[.agg (thing who kind n i wd b0 b1 b2 b3 b4 b5 b6 b7 x y (.slice A m c))] w fun e w' => ∃ v, e = .returned (.tuple #[v, .int .i64 0]) ∧ Row w' w.heap.size v (varB bs.length ++ bs) ∧ Below w.heap.size w w' := by
  subst hm
  have HBS := Aside0.mk hbs
  have HT : Aside0 (cabstandref02_Text.f 12 (strOfNums bs) = some (varB bs.length ++ bs)) := ⟨by rw [text_is _ (by rw [strOfNums_size]; exact hl), strOfNums_size, bytesOf_strOfNums _ hby]⟩
  clear hbs hl hby
  have HK := Aside0.mk hk
  have HB := Aside0.mk (below_alloc (Below.refl w.heap.size w) (.cells #[Value.int .i64 who, Value.int .i64 kind, Value.int .u64 n, Value.int .i64 i, Value.int .i64 wd, Value.int .u8 b0, Value.int .u8 b1, Value.int .u8 b2, Value.int .u8 b3, Value.int .u8 b4, Value.int .u8 b5, Value.int .u8 b6, Value.int .u8 b7, Value.int .i16 x, Value.int .i16 y, .slice A bs.length c] 46))
  clear hk
  unfold thing
  go_enter Try.func20, Try.ntmps20
  go_wp2_with fail
  refine (round7_calls kind _).mono ?_
  rintro e w1 ⟨rfl, rfl⟩
  rw [HK.out]
  have hcv := conv_text c (Kd.C_alloc HBS.out (.cells #[Value.int .i64 who, Value.int .i64 kind, Value.int .u64 n, Value.int .i64 i, Value.int .i64 wd, Value.int .u8 b0, Value.int .u8 b1, Value.int .u8 b2, Value.int .u8 b3, Value.int .u8 b4, Value.int .u8 b5, Value.int .u8 b6, Value.int .u8 b7, Value.int .i16 x, Value.int .i16 y, .slice A bs.length c] 46))
  go_wp2_with fail
  refine (cabstandref02_Text.calls 12 (strOfNums bs) (varB bs.length ++ bs) _ HT.out).mono ?_
  rintro e w2 ⟨v, rfl, hr, hb⟩
  have HB2 := Aside0.mk (below_then HB.out HB.out.size hb)
  have HR := Aside0.mk (own_weaken (row_of_R hr) HB.out.size)
  clear hb hr
  go_wp2
  go_ret2
  exact ⟨_, rfl, HR.out, HB2.out⟩
theorem form_all (t : Th) (ht : Good t) (A : Option Addr) (c : Nat) (w : World) (hC : Kd.C (Kd.int .u8) w A t.t.length t.t) (hl : t.t.length ≤ 140737488355200) :
    Calls Try.prog 20 #[.agg (thingOf t A c)] w fun e w' => ∃ v, e = .returned (.tuple #[v, .int .i64 (putB t).2]) ∧ Row w' w.heap.size v (putB t).1 ∧ Below w.heap.size w w' := by
  have hnn : ((t.n.toNat : Nat) : Int) = t.n := by have := ht.gn; omega
  have hnl : t.n.toNat < 18446744073709551616 := by have := ht.gn; omega
  have hid : t.id = [rd t.id 0, rd t.id 1, rd t.id 2, rd t.id 3, rd t.id 4, rd t.id 5, rd t.id 6, rd t.id 7] := by
    have h8 := ht.len
    match t.id, h8 with
    | [i0, i1, i2, i3, i4, i5, i6, i7], _ => rfl
  rcases kind_cases t.kind with h | h | h | h | h | h | h
  · have e : putB t = ([t.n % 256], 0) := by simp [putB, h]
    rw [e]
    exact form_byte w t.1 t.kind t.n t.i t.w (rd t.id 0) (rd t.id 1) (rd t.id 2) (rd t.id 3) (rd t.id 4) (rd t.id 5) (rd t.id 6) (rd t.id 7) t.p.1 t.p.2 A t.t.length c h
  · have e : putB t = (if wide t.n.toNat t.w = true then ([], 1) else (fixedB t.w.toNat t.n.toNat, 0)) := by simp [putB, h]
    rw [e]
    exact form_fixed w t.1 t.kind t.n t.i t.w (rd t.id 0) (rd t.id 1) (rd t.id 2) (rd t.id 3) (rd t.id 4) (rd t.id 5) (rd t.id 6) (rd t.id 7) t.p.1 t.p.2 A t.t.length c t.n.toNat hnl hnn.symm h
  · have e : putB t = (varB t.n.toNat, 0) := by simp [putB, h]
    rw [e]
    exact form_var w t.1 t.kind t.n t.i t.w (rd t.id 0) (rd t.id 1) (rd t.id 2) (rd t.id 3) (rd t.id 4) (rd t.id 5) (rd t.id 6) (rd t.id 7) t.p.1 t.p.2 A t.t.length c t.n.toNat hnl hnn.symm h
  · have e : putB t = (varB (turned t.i), 0) := by simp [putB, h]
    rw [e]
    exact form_int w t.1 t.kind t.n t.i t.w (rd t.id 0) (rd t.id 1) (rd t.id 2) (rd t.id 3) (rd t.id 4) (rd t.id 5) (rd t.id 6) (rd t.id 7) t.p.1 t.p.2 A t.t.length c ht.gi h
  · have e : putB t = (t.id, 0) := by simp [putB, h]
    rw [e]
    rw [hid]
    exact form_id w t.1 t.kind t.n t.i t.w (rd t.id 0) (rd t.id 1) (rd t.id 2) (rd t.id 3) (rd t.id 4) (rd t.id 5) (rd t.id 6) (rd t.id 7) t.p.1 t.p.2 A t.t.length c h
  · have e : putB t = (pointB t.p.1 t.p.2, 0) := by simp [putB, h]
    rw [e]
    exact form_point w t.1 t.kind t.n t.i t.w (rd t.id 0) (rd t.id 1) (rd t.id 2) (rd t.id 3) (rd t.id 4) (rd t.id 5) (rd t.id 6) (rd t.id 7) t.p.1 t.p.2 A t.t.length c h
  · have e : putB t = (varB t.t.length ++ t.t, 0) := by simp [putB, h]
    rw [e]
    exact form_text w t.1 t.kind t.n t.i t.w (rd t.id 0) (rd t.id 1) (rd t.id 2) (rd t.id 3) (rd t.id 4) (rd t.id 5) (rd t.id 6) (rd t.id 7) t.p.1 t.p.2 A t.t.length c t.t rfl hC ht.gt hl h
end Go.Proofs.Ytjijmikpoenbcaa.Codec
/- Two writers and the bytes that are wanted of them: what stays apart. Conditions: those that stand in each theorem. Written in this session. -/
namespace Go.Proofs.Ytjijmikpoenbcaa.Codec
open Go.RowKit Go.Proofs.YtjijmikpoenbcaaW.PrintWords Go.Proofs.YtjijmikpoenbcaaW.PrintLast Go.Proofs.YtjijmikpoenbcaaW.PrintMore
set_option linter.unusedVariables false
set_option linter.unusedSimpArgs false
theorem row_ne {w : World} {B g : Nat} {v : Value} {l : List Int} {cs : Array Value} {t : TypeId} {fr : Nat × Nat} (h : Row w B v l) (hb : w.heap[g]? = some (.cells cs t fr)) (ht : t ≠ 5) : v.ownBlock ≠ some g := fun e => by
  rcases h.2 with ⟨rfl, _⟩ | ⟨g', cap, cur, rfl, _, hh, _⟩
  · simp [Value.ownBlock] at e
  · have : g' = g := by simpa [Value.ownBlock] using e
    subst this
    rw [hh] at hb
    injection hb with hb
    injection hb with h1 h2 h3
    exact ht h2.symm
structure WS (w : World) (B g0 g1 : Nat) (vw0 : Value) (l0 : List Int) (vw1 : Value) (l1 : List Int) (v0 : Value) (m0 : List Int) (v1 : Value) (m1 : List Int) : Prop where
  w0 : WAt w B g0 vw0 l0
  w1 : WAt w B g1 vw1 l1
  r0 : Row w B v0 m0
  r1 : Row w B v1 m1
  aw : ∀ k, fp g0 vw0 k → ¬ fp g1 vw1 k
  b00 : ∀ k, v0.ownBlock = some k → ¬ fp g0 vw0 k
  b01 : ∀ k, v0.ownBlock = some k → ¬ fp g1 vw1 k
  b10 : ∀ k, v1.ownBlock = some k → ¬ fp g0 vw0 k
  b11 : ∀ k, v1.ownBlock = some k → ¬ fp g1 vw1 k
  c01 : ∀ k, v0.ownBlock = some k → v1.ownBlock ≠ some k
theorem WS.swap {w : World} {B g0 g1 : Nat} {vw0 vw1 v0 v1 : Value} {l0 l1 m0 m1 : List Int} (h : WS w B g0 g1 vw0 l0 vw1 l1 v0 m0 v1 m1) : WS w B g1 g0 vw1 l1 vw0 l0 v1 m1 v0 m0 :=
  ⟨h.w1, h.w0, h.r1, h.r0, fun k h1 h2 => h.aw k h2 h1, h.b11, h.b10, h.b01, h.b00, fun k h1 h2 => h.c01 k h2 h1⟩
theorem WS.keep {w w' : World} {B g0 g1 : Nat} {vw0 vw1 v0 v1 : Value} {l0 l1 m0 m1 : List Int} {F : Nat → Prop} (h : WS w B g0 g1 vw0 l0 vw1 l1 v0 m0 v1 m1) (hc : Chg F w w') (h0 : ∀ k, fp g0 vw0 k → ¬ F k) (h1 : ∀ k, fp g1 vw1 k → ¬ F k) (h2 : ∀ k, v0.ownBlock = some k → ¬ F k) (h3 : ∀ k, v1.ownBlock = some k → ¬ F k) : WS w' B g0 g1 vw0 l0 vw1 l1 v0 m0 v1 m1 :=
  ⟨h.w0.keep hc h0, h.w1.keep hc h1, h.r0.move (fun k hk => hc.block k (own_lt h.r0 k hk) (h2 k hk)), h.r1.move (fun k hk => hc.block k (own_lt h.r1 k hk) (h3 k hk)), h.aw, h.b00, h.b01, h.b10, h.b11, h.c01⟩
theorem WS.below {w w' : World} {B g0 g1 : Nat} {vw0 vw1 v0 v1 : Value} {l0 l1 m0 m1 : List Int} (h : WS w B g0 g1 vw0 l0 vw1 l1 v0 m0 v1 m1) (hb : Below w.heap.size w w') : WS w' B g0 g1 vw0 l0 vw1 l1 v0 m0 v1 m1 :=
  h.keep (F := fun _ => False) (Chg.of_below hb) (fun _ _ q => q) (fun _ _ q => q) (fun _ _ q => q) (fun _ _ q => q)
theorem WS.wrote {w w' : World} {B g0 g1 : Nat} {vw0 vw1 v0 v1 : Value} {l0 l0' l1 m0 m1 : List Int} (h : WS w B g0 g1 vw0 l0 vw1 l1 v0 m0 v1 m1) (hw : Wrote B g0 vw0 l0' w w') : ∃ vw0', WS w' B g0 g1 vw0' l0' vw1 l1 v0 m0 v1 m1 ∧ Chg (fp g0 vw0) w w' := by
  obtain ⟨vw0', h1, hm, hc⟩ := hw
  have old : ∀ k, fp g0 vw0' k → fp g0 vw0 k ∨ w.heap.size ≤ k := fun k hk => by
    rcases hk with hk | hk
    · exact Or.inl (Or.inl hk)
    · rcases hm k hk.symm with q | q
      · exact Or.inl (Or.inr q.symm)
      · exact Or.inr q
  refine ⟨vw0', ⟨h1, h.w1.keep hc (fun k a b => h.aw k b a), h.r0.move (fun k hk => hc.block k (own_lt h.r0 k hk) (h.b00 k hk)), h.r1.move (fun k hk => hc.block k (own_lt h.r1 k hk) (h.b10 k hk)), fun k hk q => ?_, fun k hk q => ?_, h.b01, fun k hk q => ?_, h.b11, h.c01⟩, hc⟩
  · rcases old k hk with a | a
    · exact h.aw k a q
    · have := (h.w1.lt k q).2; omega
  · rcases old k q with a | a
    · exact h.b00 k hk a
    · have := own_lt h.r0 k hk; omega
  · rcases old k q with a | a
    · exact h.b10 k hk a
    · have := own_lt h.r1 k hk; omega
theorem WS.grow {w w' : World} {B g0 g1 : Nat} {vw0 vw1 v0 v0' v1 : Value} {l0 l1 m0 m0' m1 : List Int} (h : WS w B g0 g1 vw0 l0 vw1 l1 v0 m0 v1 m1) (hr : Row w' B v0' m0') (hg : w.grownBy w' v0.ownBlock) (ho : v0'.ownBlock = v0.ownBlock ∨ ∃ b, v0'.ownBlock = some b ∧ w.heap.size ≤ b) : WS w' B g0 g1 vw0 l0 vw1 l1 v0' m0' v1 m1 := by
  have hc := Chg.of_grown hg
  have old : ∀ k, v0'.ownBlock = some k → v0.ownBlock = some k ∨ w.heap.size ≤ k := fun k hk => by
    rcases ho with q | ⟨b, q, hb⟩
    · exact Or.inl (q ▸ hk)
    · rw [q] at hk; cases hk; exact Or.inr hb
  refine ⟨h.w0.keep hc (fun k a b => h.b00 k b.symm a), h.w1.keep hc (fun k a b => h.b01 k b.symm a), hr, h.r1.move (fun k hk => hc.block k (own_lt h.r1 k hk) (fun q => h.c01 k q.symm hk)), h.aw, fun k hk q => ?_, fun k hk q => ?_, h.b10, h.b11, fun k hk q => ?_⟩
  · rcases old k hk with a | a
    · exact h.b00 k a q
    · have := (h.w0.lt k q).2; omega
  · rcases old k hk with a | a
    · exact h.b01 k a q
    · have := (h.w1.lt k q).2; omega
  · rcases old k hk with a | a
    · exact h.c01 k a q
    · have := own_lt h.r1 k q; omega
/-- a block that is no bytes' block, and not the writer's -/
theorem far_w {w : World} {B g0 g : Nat} {vw0 : Value} {l0 : List Int} {cs : Array Value} {t : TypeId} {fr : Nat × Nat} (h : WAt w B g0 vw0 l0) (hb : w.heap[g]? = some (.cells cs t fr)) (ht : t ≠ 5) (hne : g ≠ g0) : ¬ fp g0 vw0 g := fun q => by
  rcases q with q | q
  · exact hne q
  · exact row_ne (w := w) (B := B) (l := l0) h.own hb ht q.symm
theorem WS.cell {w w' : World} {B g0 g1 g : Nat} {vw0 vw1 v0 v1 : Value} {l0 l1 m0 m1 : List Int} {cs : Array Value} {t : TypeId} {fr : Nat × Nat} (h : WS w B g0 g1 vw0 l0 vw1 l1 v0 m0 v1 m1) (hc : Chg (· = g) w w') (hb : w.heap[g]? = some (.cells cs t fr)) (ht : t ≠ 5) (hn0 : g ≠ g0) (hn1 : g ≠ g1) : WS w' B g0 g1 vw0 l0 vw1 l1 v0 m0 v1 m1 :=
  h.keep hc (fun k a b => far_w h.w0 hb ht hn0 (b ▸ a)) (fun k a b => far_w h.w1 hb ht hn1 (b ▸ a)) (fun k a b => row_ne h.r0 hb ht (b ▸ a)) (fun k a b => row_ne h.r1 hb ht (b ▸ a))
/-- a writer's answer is a row of the asker's own -/
theorem ask_live {w : World} {B g : Nat} {v : Value} {l : List Int} (h : WAt w B g v l) (hl : l.length ≤ 140737488355328) : ∀ w', Below w.heap.size w w' → Calls Try.prog 31 #[.pointer (some ⟨g, 0, none⟩)] w' fun e w'' => ∃ A, e = .returned (.slice A l.length l.length) ∧ Row w'' w'.heap.size (.slice A l.length l.length) l ∧ Below w'.heap.size w' w'' := fun w' hb => by
  refine (wBytes_calls B g v l w' (h.keep (F := fun _ => False) (Chg.of_below hb) (fun _ _ q => q)) hl).mono ?_
  rintro e w'' ⟨rfl, hk, hb2⟩
  refine ⟨_, rfl, ⟨by rw [nums_length]; omega, Or.inr ⟨w'.heap.size, l.length, _, rfl, Nat.le_refl _, hk, Nat.le_refl _, by unfold maxLen; omega, by simp [nums], ?_⟩⟩, hb2⟩
  have : (nums .u8 l).length = l.length := by rw [nums_length]
  simp only [Nat.mul_one]
  rw [List.take_of_length_le (by omega)]
theorem ask_dead {w : World} {p : Value} (h : Dead w p) : ∀ w', Below w.heap.size w w' → Calls Try.prog 31 #[p] w' fun e w'' => ∃ A, e = .returned (.slice A ([] : List Int).length ([] : List Int).length) ∧ Row w'' w'.heap.size (.slice A ([] : List Int).length ([] : List Int).length) [] ∧ Below w'.heap.size w' w'' := fun w' hb => by
  refine (wBytes_dead p w' (h.below hb)).mono ?_
  rintro e w'' ⟨A, rfl, hr, hb2⟩
  exact ⟨A, rfl, hr, hb2⟩
/-- none grown by none -/
theorem app_none {ops : Array Oper} {rest : List Oper} {o : Oper} {a : Act} {Q : Exit → Act → World → Prop} {w : World} (hgd : o.guard = none) (s x : Operand)
    (ho : o.op = .call { callee := .builtin .append, args := #[s, x], argTypes := #[22, 22] }) (hs : a.eval s = .slice none 0 0) (hx : a.eval x = .slice none 0 0)
    (h : wpList Try.prog ops Q rest (a.put o.dst (.slice none 0 0)) w) : wpList Try.prog ops Q (o :: rest) a w := by
  obtain ⟨i0, hi, hz0, hz1, hz2⟩ := info_parts u8info
  have hr : (Builtin.append_ #[22, 22] o.type #[.slice none 0 0, .slice none 0 0]).run Try.prog w = .ok (.slice none 0 0) w := by
    simp [Builtin.append_, run_underlying Try.underlying22, sizeOf, typeInfo, hi, Builtin.lenOf, Builtin.firstCells, loadCells, loadCellsFrom]
  refine wpList_plain hgd fun K hK => ?_
  unfold Oper.wp execOp
  simp only [ho, resolve, invoke, builtin, Sem.run_bind, Sem.run_pure, Result.andThen_ok, List.map_toArray, List.map_cons, List.map_nil, hs, hx, hr]
  exact hK _ _ h
/-- one row grown by another one's bytes -/
theorem app_row {ops : Array Oper} {rest : List Oper} {o : Oper} {a : Act} {Q : Exit → Act → World → Prop} {w0 w : World} (hgd : o.guard = none) (s x : Operand)
    (ho : o.op = .call { callee := .builtin .append, args := #[s, x], argTypes := #[22, 22] }) (v : Value) (l ps : List Int) (A : Option Addr) (c : Nat)
    (hs : a.eval s = v) (hx : a.eval x = .slice A ps.length c) (HO : Row w w0.heap.size v l) (HC : Kd.C (Kd.int .u8) w A ps.length ps) (HB : Below w0.heap.size w0 w) (hl : l.length + ps.length ≤ 140737488355328)
    (h : ∀ v' w', Row w' w0.heap.size v' (l ++ ps) → w.grownBy w' v.ownBlock → (v'.ownBlock = v.ownBlock ∨ ∃ b, v'.ownBlock = some b ∧ w.heap.size ≤ b) → Below w0.heap.size w0 w' → wpList Try.prog ops Q rest (a.put o.dst v') w') :
    wpList Try.prog ops Q (o :: rest) a w := by
  refine Kd.R_append_rows (Kd.int .u8) (w0 := w0) w0.heap.size hgd s x 22 5 (.int .u8 0) 1 ho Try.underlying22 u8info rfl (by decide) (by omega) v l ps A ps.length c (fun _ => True) (fun _ => False) hs hx (Kd.R_of_own HO (fun _ _ => trivial)) HC (fun _ _ h => h) (fun _ h => h.elim) (fun _ _ => trivial) HB HB.size (by simpa using hl) ?_
  intro v1 w1 h1 h2 h3 h4
  exact h v1 w1 (row_of_R h1) h3 h4 h2
theorem al1 (w : World) (a b : Obj) : ((w.alloc a).alloc b).heap[w.heap.size + 1]? = some b := by
  have := blk_new (w.alloc a) b
  rwa [World.size_alloc] at this
theorem al2 (w : World) (a b c : Obj) : (((w.alloc a).alloc b).alloc c).heap[w.heap.size + 1 + 1]? = some c := by
  have := blk_new ((w.alloc a).alloc b) c
  rwa [World.size_alloc, World.size_alloc] at this
end Go.Proofs.Ytjijmikpoenbcaa.Codec
/- The law CodecWrites, walked. Written by wip/gen/writes.py. -/
namespace Go.Proofs.Ytjijmikpoenbcaa.Codec
open Go.RowKit Go.Proofs.YtjijmikpoenbcaaW.PrintWords Go.Proofs.YtjijmikpoenbcaaW.PrintLast Go.Proofs.YtjijmikpoenbcaaW.PrintMore Go.Proofs.Ytjijmikpoenbcaa.Q
set_option linter.unusedVariables false
set_option linter.unusedSimpArgs false
def writes_T16 : Bool × List (List Nat × List Nat) := (true, [([], []), ([], []), ([0, 1], [0, 1]), ([2], [2]), ([], []), ([3, 4], [3, 4]), ([], []), ([5, 6], [5, 6])])
def writes_B16 : List Nat := [0, 0, 3, 7, 0, 31, 0, 127]
theorem writes_tab16 : rtab .any (opsOf Try.f6 16) = writes_T16 := by kernel_rfl
theorem writes_bits16 : waitsOk writes_T16.2 writes_B16 = true := by kernel_rfl
def writes_T19 : Bool × List (List Nat × List Nat) := (true, [([], []), ([], []), ([0, 1], [0, 1]), ([2], [2]), ([], []), ([4], [4]), ([5], [5]), ([3, 6], [3, 6]), ([7], [7])])
def writes_B19 : List Nat := [0, 0, 3, 7, 0, 16, 48, 127, 255]
theorem writes_tab19 : rtab .any (opsOf Try.f6 19) = writes_T19 := by kernel_rfl
theorem writes_bits19 : waitsOk writes_T19.2 writes_B19 = true := by kernel_rfl
def writes_T24 : Bool × List (List Nat × List Nat) := (true, [([], []), ([], []), ([0, 1], [0, 1]), ([2], [2]), ([], []), ([4], [4]), ([5], [5]), ([3, 6], [3, 6]), ([7], [7])])
def writes_B24 : List Nat := [0, 0, 3, 7, 0, 16, 48, 127, 255]
theorem writes_tab24 : rtab .any (opsOf Try.f6 24) = writes_T24 := by kernel_rfl
theorem writes_bits24 : waitsOk writes_T24.2 writes_B24 = true := by kernel_rfl
theorem varB_lew (n : Nat) : (varB n).length ≤ 11 := by
  have : ∀ k m, (varF k m).length ≤ k + 1 := by
    intro k
    induction k with
    | zero => intro m; simp [varF]
    | succ k ih =>
      intro m
      rw [varF]
      split
      · simp
      · have := ih (m / 128)
        simp
        omega
  exact this 10 n
theorem put_lew (t : Th) (ht : Good t) (hl : t.t.length ≤ 1048576) : (putB t).1.length ≤ 1048587 := by
  rcases kind_cases t.kind with hk | hk | hk | hk | hk | hk | hk
  · simp [putB, hk]
  · have e : putB t = (if wide t.n.toNat t.w = true then ([], 1) else (fixedB t.w.toNat t.n.toNat, 0)) := by simp [putB, hk]
    rw [e]
    by_cases hw : wide t.n.toNat t.w = true
    · rw [if_pos hw]; simp
    · rw [if_neg hw]
      have hq : wide t.n.toNat t.w = false := by simpa using hw
      unfold wide at hq
      simp at hq
      show (fixedB t.w.toNat t.n.toNat).length ≤ _
      rw [fixedB_len]
      omega
  · have := varB_lew t.n.toNat
    simp [putB, hk]; omega
  · have := varB_lew (turned t.i)
    simp [putB, hk]; omega
  · have := ht.len
    simp [putB, hk]; omega
  · simp [putB, hk, pointB]
  · have := varB_lew t.t.length
    simp [putB, hk]; omega
theorem round_nw (a n : Int) (hn : 0 < n) (hn2 : n ≤ 9223372036854775807) : ∃ t, cabstandlaw02_round.f a n = some t ∧ 0 ≤ t ∧ t < n := by
  unfold cabstandlaw02_round.f
  have h1 := Int.tmod_lt_of_pos a hn
  have h2 := Int.lt_tmod_of_pos a hn
  rw [if_neg (by omega)]
  by_cases h : Int.tmod a n < 0
  · rw [if_pos h]
    refine ⟨_, rfl, ?_⟩
    unfold wrap64
    omega
  · rw [if_neg h]
    exact ⟨_, rfl, by omega, h1⟩
def BndW (n j : Nat) : Prop := n ≤ j * 1048587
theorem bndw_zero : BndW ([] : List Int).length 0 := Nat.zero_le _
theorem bndw_next {n j : Nat} (h : BndW n j) : BndW n (j + 1) := Nat.le_trans h (Nat.mul_le_mul_right _ (Nat.le_succ j))
theorem bndw_step {n m j : Nat} (h : BndW n j) (hm : m ≤ 1048587) : BndW (n + m) (j + 1) := by
  unfold BndW at *
  rw [Nat.succ_mul]
  omega
theorem bndw_top {n j : Nat} (h : BndW n j) (hj : j ≤ 1048576) : n ≤ 1099523162112 := by
  unfold BndW at h
  have : j * 1048587 ≤ 1048576 * 1048587 := Nat.mul_le_mul_right _ hj
  have e : 1048576 * 1048587 = 1099523162112 := by decide
  omega
theorem put_fine {t : Th} (h : kindOf t.kind ≠ 1) : (putB t).2 = 0 := by
  rcases kind_cases t.kind with hk | hk | hk | hk | hk | hk | hk
  · simp [putB, hk]
  · exact absurd hk h
  · simp [putB, hk]
  · simp [putB, hk]
  · simp [putB, hk]
  · simp [putB, hk]
  · simp [putB, hk]
set_option maxHeartbeats 8000000 in
set_option maxRecDepth 100000 in
theorem writes_walk (A1 : Option Addr) (c1 : Nat) (ts : List Th) (w : World) (h1 : Kd.C kTh w A1 ts.length ts) (hl1 : ts.length ≤ 1048576) (ht : ∀ t ∈ ts, Good t ∧ t.t.length ≤ 1048576) :
    Calls Try.prog 6 #[.slice A1 ts.length c1] w fun e w' => e = .returned (.bool true) ∧ Below w.heap.size w w' := by
  have H1 := Aside0.mk h1
  have HLT := Aside0.mk hl1
  have HT := Aside0.mk ht
  clear h1 hl1 ht
  go_enter Try.func6, Try.ntmps6
  go_wp2_with fail
  refine (NewWriter_calls w).mono ?_
  rintro e w1 ⟨rfl, hw0, hb0⟩
  have HWA := Aside0.mk hw0
  have HBA := Aside0.mk hb0
  clear hw0 hb0
  go_wp2_with fail
  refine (NewWriter_calls w1).mono ?_
  rintro e w2 ⟨rfl, hw1, hb1⟩
  have HN : Aside0 (w.heap.size < w1.heap.size ∧ w1.heap.size < w2.heap.size) := ⟨blk_lt HWA.out.blk, blk_lt hw1.blk⟩
  have HWA2 := Aside0.mk (HWA.out.keep (F := fun _ => False) (Chg.of_below hb1) (fun _ _ q => q))
  have HWB2 : Aside0 (WAt w2 w.heap.size w1.heap.size (.slice none 0 0) []) := ⟨⟨hw1.blk, own_weaken hw1.own (Nat.le_of_lt HN.out.1), Nat.le_of_lt HN.out.1⟩⟩
  have HB2 := Aside0.mk (below_then HBA.out HBA.out.size hb1)
  clear hw1 hb1 HWA HBA
  go_wp2
  go_loopg [6] ts.length (fun kq v6 w' => ∃ (j : Nat) (vw0 : Value) (l0 : List Int) (vw1 : Value) (l1 : List Int) (v0 v1 : Value), v6 = .int .i64 j ∧ Aside0 (j + kq = ts.length) ∧ Aside0 (BndW l0.length j ∧ BndW l1.length j) ∧ Aside0 (Below w.heap.size w w') ∧ Aside0 (WS w' w.heap.size w.heap.size w1.heap.size (vw0) (l0) (vw1) (l1) (v0) (l0) (v1) (l1)) ∧ Aside0 (w'.heap[w2.heap.size + 1]? = some (.cells #[.pointer (some ⟨w.heap.size, 0, none⟩), .pointer (some ⟨w1.heap.size, 0, none⟩), .pointer none, .pointer (some ⟨w2.heap.size, 0, none⟩)] 33 (0, 0))) ∧ Aside0 (w'.heap[w2.heap.size + 1 + 1]? = some (.cells #[v0, v1, .slice none 0 0, .slice none 0 0] 38 (0, 0))) ∧ Aside0 (w'.heap[w2.heap.size]? = some (.cells #[.slice none 0 0, .bool false] 36 (0, 0))))
  case atStart =>
    have hbw : Below w2.heap.size w2 (((w2.alloc (.cells #[.slice none 0 0, .bool false] 36)).alloc (.cells #[.pointer (some ⟨w.heap.size, 0, none⟩), .pointer (some ⟨w1.heap.size, 0, none⟩), .pointer none, .pointer (some ⟨w2.heap.size, 0, none⟩)] 33)).alloc (.cells #[.slice none 0 0, .slice none 0 0, .slice none 0 0, .slice none 0 0] 38)) := below_alloc (below_alloc (below_alloc (Below.refl _ _) _) _) _
    have hws : WS w2 w.heap.size w.heap.size w1.heap.size (.slice none 0 0) [] (.slice none 0 0) [] (.slice none 0 0) [] (.slice none 0 0) [] := ⟨HWA2.out, HWB2.out, World.ownsRow_nil _ _ _ _, World.ownsRow_nil _ _ _ _, fun k a b => by
      have := HN.out
      rcases a with a | a
      · rcases b with b | b
        · omega
        · simp [Value.ownBlock] at b
      · simp [Value.ownBlock] at a, fun k a => by simp [Value.ownBlock] at a, fun k a => by simp [Value.ownBlock] at a, fun k a => by simp [Value.ownBlock] at a, fun k a => by simp [Value.ownBlock] at a, fun k a => by simp [Value.ownBlock] at a⟩
    exact ⟨0, _, [], _, [], _, _, rfl, ⟨by omega⟩, ⟨bndw_zero, bndw_zero⟩, ⟨below_step HB2.out hbw⟩, ⟨hws.below hbw⟩, ⟨blk_alloc (al1 w2 _ _) _⟩, ⟨al2 w2 _ _ _⟩, ⟨blk_alloc (blk_alloc (blk_new w2 _) _) _⟩⟩
  case round =>
    clear HWA2 HWB2 HB2
    obtain ⟨j, vw0, l0, vw1, l1, v0, v1, rfl, HJ, HBN, HBr, HWSr, HGWr, HGQr, HG3r⟩ := hrel
    have HJT : Aside0 (j ≤ 1048576) := ⟨by have := HJ.out; have := HLT.out; omega⟩
    cases gk with
    | zero =>
      as_aux_lemma =>
        have hjl : ¬ (j : Int) < ts.length := by have := HJ.out; omega
        obtain ⟨Ah0, ch0, e0_, hlh0, _⟩ := HWSr.out.r0.len
        obtain ⟨Ah1, ch1, e1_, hlh1, _⟩ := HWSr.out.r1.len
        subst e0_
        subst e1_
        have HLH0 := Aside0.mk hlh0
        have HLH1 := Aside0.mk hlh1
        clear hlh0 hlh1
        obtain ⟨jt, hjt⟩ : ∃ jt, jt = j := ⟨_, rfl⟩
        have HBH : Aside0 (BndW l0.length jt ∧ BndW l1.length jt) := ⟨by rw [hjt]; exact HBN.out⟩
        have HJH : Aside0 (jt ≤ 1048576) := ⟨by rw [hjt]; exact HJT.out⟩
        clear hjt
        go_wp2
        go_loopg [11] 4 (fun kq v11 w' => ∃ (k : Nat), v11 = .int .i64 k ∧ Aside0 (k + kq = 4) ∧ Aside0 (Below w.heap.size w w') ∧ Aside0 (WS w' w.heap.size w.heap.size w1.heap.size (vw0) (l0) (vw1) (l1) (.slice Ah0 l0.length ch0) (l0) (.slice Ah1 l1.length ch1) (l1)) ∧ Aside0 (w'.heap[w2.heap.size + 1]? = some (.cells #[.pointer (some ⟨w.heap.size, 0, none⟩), .pointer (some ⟨w1.heap.size, 0, none⟩), .pointer none, .pointer (some ⟨w2.heap.size, 0, none⟩)] 33 (0, 0))) ∧ Aside0 (w'.heap[w2.heap.size + 1 + 1]? = some (.cells #[.slice Ah0 l0.length ch0, .slice Ah1 l1.length ch1, .slice none 0 0, .slice none 0 0] 38 (0, 0))) ∧ Aside0 (w'.heap[w2.heap.size]? = some (.cells #[.slice none 0 0, .bool false] 36 (0, 0))))
        case atStart => exact ⟨0, rfl, ⟨by omega⟩, HBr, HWSr, HGWr, HGQr, HG3r⟩
        case round =>
          clear HBr HWSr HGWr HGQr HG3r
          obtain ⟨k, rfl, HK, HBr, HWSr, HGWr, HGQr, HG3r⟩ := hrel
          cases gk with
          | zero =>
            have hkl : ¬ (k : Int) < 4 := by have := HK.out; omega
            go_wp2_with fail
            refine (cabstandlaw02_lives.calls true _ rfl).mono ?_
            rintro e w5 ⟨rfl, hb⟩
            have HB5 := Aside0.mk (below_then HBr.out HBr.out.size hb)
            clear hb
            go_wp2
            go_ret
            exact ⟨rfl, HB5.out⟩
          | succ kk =>
            have hcase : k = 0 ∨ k = 1 ∨ k = 2 ∨ k = 3 := by have := HK.out; omega
            rcases hcase with rfl | rfl | rfl | rfl
            · as_aux_lemma =>
                go_wp2_with fail
                have hbd : Below wr.heap.size wr wr.drew := below_drew1 (Below.refl _ _)
                have HB6 := Aside0.mk (below_step HBr.out hbd)
                have HWS6 := Aside0.mk (HWSr.out.below hbd)
                have HGW6 := Aside0.mk ((hbd.block _ (blk_lt HGWr.out)).trans HGWr.out)
                have HGQ6 := Aside0.mk ((hbd.block _ (blk_lt HGQr.out)).trans HGQr.out)
                have HG36 := Aside0.mk ((hbd.block _ (blk_lt HG3r.out)).trans HG3r.out)
                clear HBr HWSr HGWr HGQr HG3r hbd
                refine start_ (n := 9) (S := fun w' => w'.cell? ⟨w2.heap.size + 1, 0, none⟩ = some (.pointer (some ⟨w.heap.size, 0, none⟩)) ∧ w'.cell? ⟨w2.heap.size + 1, 1, none⟩ = some (.pointer (some ⟨w1.heap.size, 0, none⟩)) ∧ w'.cell? ⟨w2.heap.size + 1, 2, none⟩ = some (.pointer none) ∧ w'.cell? ⟨w2.heap.size + 1, 3, none⟩ = some (.pointer (some ⟨w2.heap.size, 0, none⟩)) ∧ w'.cell? ⟨w2.heap.size + 1 + 1, 0, none⟩ = some (.slice Ah0 l0.length ch0) ∧ w'.cell? ⟨w2.heap.size + 1 + 1, 1, none⟩ = some (.slice Ah1 l1.length ch1) ∧ w'.cell? ⟨w2.heap.size + 1 + 1, 2, none⟩ = some (.slice none 0 0) ∧ w'.cell? ⟨w2.heap.size + 1 + 1, 3, none⟩ = some (.slice none 0 0)) (ds := []) #[false, false, false, false, false, false, false, false, false] (by kernel_rfl) rfl rfl ⟨(blk_cell HGW6.out 0).trans rfl, (blk_cell HGW6.out 1).trans rfl, (blk_cell HGW6.out 2).trans rfl, (blk_cell HGW6.out 3).trans rfl, (blk_cell HGQ6.out 0).trans rfl, (blk_cell HGQ6.out 1).trans rfl, (blk_cell HGQ6.out 2).trans rfl, (blk_cell HGQ6.out 3).trans rfl⟩ (fun hHeld => ?_)
                refine with_tabW writes_tab24 writes_bits24 (fun HT_ HW_ => ?_)
                generalize wr.drew = w6 at HB6 HWS6 HGW6 HGQ6 HG36 hHeld ⊢
                refine pure_ (i := 0) (N := some 79) (v := ?_) (a' := ?_) #[true, false, false, false, false, false, false, false, false] rfl rfl (any_of HT_.out (by kernel_rfl)) (fun _ _ _ h => h) (Or.inl ⟨by rfl, ?_⟩) ?_ ?_
                rotate_left
                · intro w'
                  go_simp
                  with_reducible rfl
                rotate_left
                · simp only [Act.put, List.setIfInBounds_toArray, List.set_cons_zero, List.set_cons_succ, i64_w, i32_w]
                  rfl
                refine pure_ (i := 1) (N := some 80) (v := ?_) (a' := ?_) #[true, true, false, false, false, false, false, false, false] rfl rfl (any_of HT_.out (by kernel_rfl)) (fun _ _ _ h => h) (Or.inl ⟨by rfl, ?_⟩) ?_ ?_
                rotate_left
                · intro w'
                  go_simp
                  with_reducible rfl
                rotate_left
                · simp only [Act.put, List.setIfInBounds_toArray, List.set_cons_zero, List.set_cons_succ, i64_w, i32_w]
                  rfl
                refine pure_ (i := 2) (N := some 81) (v := ?_) (a' := ?_) #[true, true, true, false, false, false, false, false, false] rfl rfl (any_of HT_.out (by kernel_rfl)) (fun _ _ _ h => h) (Or.inl ⟨by rfl, ?_⟩) ?_ ?_
                rotate_left
                · intro w'
                  go_simp
                  with_reducible rfl
                rotate_left
                · simp only [Act.put, List.setIfInBounds_toArray, List.set_cons_zero, List.set_cons_succ, i64_w, i32_w]
                  rfl
                refine pure_ (i := 4) (N := some 83) (v := ?_) (a' := ?_) #[true, true, true, false, true, false, false, false, false] rfl rfl (any_of HT_.out (by kernel_rfl)) (fun _ _ _ h => h) (Or.inl ⟨by rfl, ?_⟩) ?_ ?_
                rotate_left
                · intro w'
                  go_simp
                  with_reducible rfl
                rotate_left
                · simp only [Act.put, List.setIfInBounds_toArray, List.set_cons_zero, List.set_cons_succ, i64_w, i32_w]
                  rfl
                refine pure_ (i := 5) (N := some 84) (v := ?_) (a' := ?_) #[true, true, true, false, true, true, false, false, false] rfl rfl (any_of HT_.out (by kernel_rfl)) (fun _ _ _ h => h) (Or.inl ⟨by rfl, ?_⟩) ?_ ?_
                rotate_left
                · intro w'
                  go_simp
                  with_reducible rfl
                rotate_left
                · simp only [Act.put, List.setIfInBounds_toArray, List.set_cons_zero, List.set_cons_succ, i64_w, i32_w]
                  rfl
                refine take_ (i := 3) (N := some 82) (v := ?_) (a' := ?_) #[true, true, true, true, true, true, false, false, false] rfl rfl (take_ofW HT_.out HW_.out (by kernel_rfl)) (fun _ _ _ h => h) (Or.inl ⟨by rfl, ?_⟩) hHeld ?_ ?_
                rotate_left
                · rintro w' ⟨s0, s1, s2, s3, s4, s5, s6, s7⟩
                  go_simp
                  with_reducible rfl
                rotate_left
                · simp only [Act.put, List.setIfInBounds_toArray, List.set_cons_zero, List.set_cons_succ, i64_w, i32_w]
                  rfl
                refine take_ (i := 6) (N := some 85) (v := ?_) (a' := ?_) #[true, true, true, true, true, true, true, false, false] rfl rfl (take_ofW HT_.out HW_.out (by kernel_rfl)) (fun _ _ _ h => h) (Or.inl ⟨by rfl, ?_⟩) hHeld ?_ ?_
                rotate_left
                · rintro w' ⟨s0, s1, s2, s3, s4, s5, s6, s7⟩
                  go_simp
                  with_reducible rfl
                rotate_left
                · simp only [Act.put, List.setIfInBounds_toArray, List.set_cons_zero, List.set_cons_succ, i64_w, i32_w]
                  rfl
                refine one_ (i := 7) (N := some 86) #[true, true, true, true, true, true, true, true, false] rfl rfl (one_of HT_.out (by kernel_rfl)) (by decide) (fun K hK => ?_)
                refine goes_ Try.func22 (by kernel_rfl) rfl #[.pointer (some ⟨w.heap.size, 0, none⟩), .slice Ah0 (l0).length ch0] (by rfl) rfl rfl (by (try simp only [List.map_toArray, List.map_cons, List.map_nil]); first | done | rfl) ?_
                refine (hand_calls (.pointer (some ⟨w.heap.size, 0, none⟩)) (l0) w6 Ah0 ch0 (by obtain ⟨A_, c_, e_, _, hC_⟩ := HWS6.out.r0.len; cases e_; exact hC_) HLH0.out (by have h := bndw_top HBH.out.1 (j := jt) HJH.out; omega) (ask_live HWS6.out.w0 (by have h := bndw_top HBH.out.1 (j := jt) HJH.out; omega))).mono ?_
                rintro e w7 ⟨rfl, hb⟩
                refine ⟨_, rfl, ?_⟩
                have HB7 := Aside0.mk (below_step HB6.out hb)
                have HWS7 := Aside0.mk (HWS6.out.below hb)
                have HGW7 := Aside0.mk ((hb.block _ (blk_lt HGW6.out)).trans HGW6.out)
                have HGQ7 := Aside0.mk ((hb.block _ (blk_lt HGQ6.out)).trans HGQ6.out)
                have HG37 := Aside0.mk ((hb.block _ (blk_lt HG36.out)).trans HG36.out)
                clear HB6 HWS6 HGW6 HGQ6 HG36 hb
                refine hK.out _ _ ⟨(blk_cell HGW7.out 0).trans rfl, (blk_cell HGW7.out 1).trans rfl, (blk_cell HGW7.out 2).trans rfl, (blk_cell HGW7.out 3).trans rfl, (blk_cell HGQ7.out 0).trans rfl, (blk_cell HGQ7.out 1).trans rfl, (blk_cell HGQ7.out 2).trans rfl, (blk_cell HGQ7.out 3).trans rfl⟩ (fun hHeld => ?_)
                clear hK K
                refine norm_ (a' := ?_) ?_ ?_
                rotate_left
                · show Act.put _ (some 86) _ = _
                  simp only [Act.put, List.setIfInBounds_toArray, List.set_cons_zero, List.set_cons_succ, i64_w, i32_w]
                  rfl
                refine pure_ (i := 8) (N := some 87) (v := ?_) (a' := ?_) #[true, true, true, true, true, true, true, true, true] rfl rfl (any_of HT_.out (by kernel_rfl)) (fun _ _ _ h => h) (Or.inl ⟨by rfl, ?_⟩) ?_ ?_
                rotate_left
                · intro w'
                  go_simp
                  with_reducible rfl
                rotate_left
                · simp only [Act.put, List.setIfInBounds_toArray, List.set_cons_zero, List.set_cons_succ, i64_w, i32_w]
                  rfl
                refine done_ (done_of HT_.out (by kernel_rfl)) ?_
                clear hHeld HT_ HW_
                go_wp2
                go_roundg kk
                case measure => omega
                case rel => exact ⟨1, by first | rfl | simp, ⟨by have := HK.out; omega⟩, HB7, HWS7, HGW7, HGQ7, HG37⟩
            · as_aux_lemma =>
                go_wp2_with fail
                have hbd : Below wr.heap.size wr wr.drew := below_drew1 (Below.refl _ _)
                have HB6 := Aside0.mk (below_step HBr.out hbd)
                have HWS6 := Aside0.mk (HWSr.out.below hbd)
                have HGW6 := Aside0.mk ((hbd.block _ (blk_lt HGWr.out)).trans HGWr.out)
                have HGQ6 := Aside0.mk ((hbd.block _ (blk_lt HGQr.out)).trans HGQr.out)
                have HG36 := Aside0.mk ((hbd.block _ (blk_lt HG3r.out)).trans HG3r.out)
                clear HBr HWSr HGWr HGQr HG3r hbd
                refine start_ (n := 9) (S := fun w' => w'.cell? ⟨w2.heap.size + 1, 0, none⟩ = some (.pointer (some ⟨w.heap.size, 0, none⟩)) ∧ w'.cell? ⟨w2.heap.size + 1, 1, none⟩ = some (.pointer (some ⟨w1.heap.size, 0, none⟩)) ∧ w'.cell? ⟨w2.heap.size + 1, 2, none⟩ = some (.pointer none) ∧ w'.cell? ⟨w2.heap.size + 1, 3, none⟩ = some (.pointer (some ⟨w2.heap.size, 0, none⟩)) ∧ w'.cell? ⟨w2.heap.size + 1 + 1, 0, none⟩ = some (.slice Ah0 l0.length ch0) ∧ w'.cell? ⟨w2.heap.size + 1 + 1, 1, none⟩ = some (.slice Ah1 l1.length ch1) ∧ w'.cell? ⟨w2.heap.size + 1 + 1, 2, none⟩ = some (.slice none 0 0) ∧ w'.cell? ⟨w2.heap.size + 1 + 1, 3, none⟩ = some (.slice none 0 0)) (ds := []) #[false, false, false, false, false, false, false, false, false] (by kernel_rfl) rfl rfl ⟨(blk_cell HGW6.out 0).trans rfl, (blk_cell HGW6.out 1).trans rfl, (blk_cell HGW6.out 2).trans rfl, (blk_cell HGW6.out 3).trans rfl, (blk_cell HGQ6.out 0).trans rfl, (blk_cell HGQ6.out 1).trans rfl, (blk_cell HGQ6.out 2).trans rfl, (blk_cell HGQ6.out 3).trans rfl⟩ (fun hHeld => ?_)
                refine with_tabW writes_tab24 writes_bits24 (fun HT_ HW_ => ?_)
                generalize wr.drew = w6 at HB6 HWS6 HGW6 HGQ6 HG36 hHeld ⊢
                refine pure_ (i := 0) (N := some 79) (v := ?_) (a' := ?_) #[true, false, false, false, false, false, false, false, false] rfl rfl (any_of HT_.out (by kernel_rfl)) (fun _ _ _ h => h) (Or.inl ⟨by rfl, ?_⟩) ?_ ?_
                rotate_left
                · intro w'
                  go_simp
                  with_reducible rfl
                rotate_left
                · simp only [Act.put, List.setIfInBounds_toArray, List.set_cons_zero, List.set_cons_succ, i64_w, i32_w]
                  rfl
                refine pure_ (i := 1) (N := some 80) (v := ?_) (a' := ?_) #[true, true, false, false, false, false, false, false, false] rfl rfl (any_of HT_.out (by kernel_rfl)) (fun _ _ _ h => h) (Or.inl ⟨by rfl, ?_⟩) ?_ ?_
                rotate_left
                · intro w'
                  go_simp
                  with_reducible rfl
                rotate_left
                · simp only [Act.put, List.setIfInBounds_toArray, List.set_cons_zero, List.set_cons_succ, i64_w, i32_w]
                  rfl
                refine pure_ (i := 2) (N := some 81) (v := ?_) (a' := ?_) #[true, true, true, false, false, false, false, false, false] rfl rfl (any_of HT_.out (by kernel_rfl)) (fun _ _ _ h => h) (Or.inl ⟨by rfl, ?_⟩) ?_ ?_
                rotate_left
                · intro w'
                  go_simp
                  with_reducible rfl
                rotate_left
                · simp only [Act.put, List.setIfInBounds_toArray, List.set_cons_zero, List.set_cons_succ, i64_w, i32_w]
                  rfl
                refine pure_ (i := 4) (N := some 83) (v := ?_) (a' := ?_) #[true, true, true, false, true, false, false, false, false] rfl rfl (any_of HT_.out (by kernel_rfl)) (fun _ _ _ h => h) (Or.inl ⟨by rfl, ?_⟩) ?_ ?_
                rotate_left
                · intro w'
                  go_simp
                  with_reducible rfl
                rotate_left
                · simp only [Act.put, List.setIfInBounds_toArray, List.set_cons_zero, List.set_cons_succ, i64_w, i32_w]
                  rfl
                refine pure_ (i := 5) (N := some 84) (v := ?_) (a' := ?_) #[true, true, true, false, true, true, false, false, false] rfl rfl (any_of HT_.out (by kernel_rfl)) (fun _ _ _ h => h) (Or.inl ⟨by rfl, ?_⟩) ?_ ?_
                rotate_left
                · intro w'
                  go_simp
                  with_reducible rfl
                rotate_left
                · simp only [Act.put, List.setIfInBounds_toArray, List.set_cons_zero, List.set_cons_succ, i64_w, i32_w]
                  rfl
                refine take_ (i := 3) (N := some 82) (v := ?_) (a' := ?_) #[true, true, true, true, true, true, false, false, false] rfl rfl (take_ofW HT_.out HW_.out (by kernel_rfl)) (fun _ _ _ h => h) (Or.inl ⟨by rfl, ?_⟩) hHeld ?_ ?_
                rotate_left
                · rintro w' ⟨s0, s1, s2, s3, s4, s5, s6, s7⟩
                  go_simp
                  with_reducible rfl
                rotate_left
                · simp only [Act.put, List.setIfInBounds_toArray, List.set_cons_zero, List.set_cons_succ, i64_w, i32_w]
                  rfl
                refine take_ (i := 6) (N := some 85) (v := ?_) (a' := ?_) #[true, true, true, true, true, true, true, false, false] rfl rfl (take_ofW HT_.out HW_.out (by kernel_rfl)) (fun _ _ _ h => h) (Or.inl ⟨by rfl, ?_⟩) hHeld ?_ ?_
                rotate_left
                · rintro w' ⟨s0, s1, s2, s3, s4, s5, s6, s7⟩
                  go_simp
                  with_reducible rfl
                rotate_left
                · simp only [Act.put, List.setIfInBounds_toArray, List.set_cons_zero, List.set_cons_succ, i64_w, i32_w]
                  rfl
                refine one_ (i := 7) (N := some 86) #[true, true, true, true, true, true, true, true, false] rfl rfl (one_of HT_.out (by kernel_rfl)) (by decide) (fun K hK => ?_)
                refine goes_ Try.func22 (by kernel_rfl) rfl #[.pointer (some ⟨w1.heap.size, 0, none⟩), .slice Ah1 (l1).length ch1] (by rfl) rfl rfl (by (try simp only [List.map_toArray, List.map_cons, List.map_nil]); first | done | rfl) ?_
                refine (hand_calls (.pointer (some ⟨w1.heap.size, 0, none⟩)) (l1) w6 Ah1 ch1 (by obtain ⟨A_, c_, e_, _, hC_⟩ := HWS6.out.r1.len; cases e_; exact hC_) HLH1.out (by have h := bndw_top HBH.out.2 (j := jt) HJH.out; omega) (ask_live HWS6.out.w1 (by have h := bndw_top HBH.out.2 (j := jt) HJH.out; omega))).mono ?_
                rintro e w7 ⟨rfl, hb⟩
                refine ⟨_, rfl, ?_⟩
                have HB7 := Aside0.mk (below_step HB6.out hb)
                have HWS7 := Aside0.mk (HWS6.out.below hb)
                have HGW7 := Aside0.mk ((hb.block _ (blk_lt HGW6.out)).trans HGW6.out)
                have HGQ7 := Aside0.mk ((hb.block _ (blk_lt HGQ6.out)).trans HGQ6.out)
                have HG37 := Aside0.mk ((hb.block _ (blk_lt HG36.out)).trans HG36.out)
                clear HB6 HWS6 HGW6 HGQ6 HG36 hb
                refine hK.out _ _ ⟨(blk_cell HGW7.out 0).trans rfl, (blk_cell HGW7.out 1).trans rfl, (blk_cell HGW7.out 2).trans rfl, (blk_cell HGW7.out 3).trans rfl, (blk_cell HGQ7.out 0).trans rfl, (blk_cell HGQ7.out 1).trans rfl, (blk_cell HGQ7.out 2).trans rfl, (blk_cell HGQ7.out 3).trans rfl⟩ (fun hHeld => ?_)
                clear hK K
                refine norm_ (a' := ?_) ?_ ?_
                rotate_left
                · show Act.put _ (some 86) _ = _
                  simp only [Act.put, List.setIfInBounds_toArray, List.set_cons_zero, List.set_cons_succ, i64_w, i32_w]
                  rfl
                refine pure_ (i := 8) (N := some 87) (v := ?_) (a' := ?_) #[true, true, true, true, true, true, true, true, true] rfl rfl (any_of HT_.out (by kernel_rfl)) (fun _ _ _ h => h) (Or.inl ⟨by rfl, ?_⟩) ?_ ?_
                rotate_left
                · intro w'
                  go_simp
                  with_reducible rfl
                rotate_left
                · simp only [Act.put, List.setIfInBounds_toArray, List.set_cons_zero, List.set_cons_succ, i64_w, i32_w]
                  rfl
                refine done_ (done_of HT_.out (by kernel_rfl)) ?_
                clear hHeld HT_ HW_
                go_wp2
                go_roundg kk
                case measure => omega
                case rel => exact ⟨2, by first | rfl | simp, ⟨by have := HK.out; omega⟩, HB7, HWS7, HGW7, HGQ7, HG37⟩
            · as_aux_lemma =>
                go_wp2_with fail
                have hbd : Below wr.heap.size wr wr.drew := below_drew1 (Below.refl _ _)
                have HB6 := Aside0.mk (below_step HBr.out hbd)
                have HWS6 := Aside0.mk (HWSr.out.below hbd)
                have HGW6 := Aside0.mk ((hbd.block _ (blk_lt HGWr.out)).trans HGWr.out)
                have HGQ6 := Aside0.mk ((hbd.block _ (blk_lt HGQr.out)).trans HGQr.out)
                have HG36 := Aside0.mk ((hbd.block _ (blk_lt HG3r.out)).trans HG3r.out)
                clear HBr HWSr HGWr HGQr HG3r hbd
                refine start_ (n := 9) (S := fun w' => w'.cell? ⟨w2.heap.size + 1, 0, none⟩ = some (.pointer (some ⟨w.heap.size, 0, none⟩)) ∧ w'.cell? ⟨w2.heap.size + 1, 1, none⟩ = some (.pointer (some ⟨w1.heap.size, 0, none⟩)) ∧ w'.cell? ⟨w2.heap.size + 1, 2, none⟩ = some (.pointer none) ∧ w'.cell? ⟨w2.heap.size + 1, 3, none⟩ = some (.pointer (some ⟨w2.heap.size, 0, none⟩)) ∧ w'.cell? ⟨w2.heap.size + 1 + 1, 0, none⟩ = some (.slice Ah0 l0.length ch0) ∧ w'.cell? ⟨w2.heap.size + 1 + 1, 1, none⟩ = some (.slice Ah1 l1.length ch1) ∧ w'.cell? ⟨w2.heap.size + 1 + 1, 2, none⟩ = some (.slice none 0 0) ∧ w'.cell? ⟨w2.heap.size + 1 + 1, 3, none⟩ = some (.slice none 0 0)) (ds := []) #[false, false, false, false, false, false, false, false, false] (by kernel_rfl) rfl rfl ⟨(blk_cell HGW6.out 0).trans rfl, (blk_cell HGW6.out 1).trans rfl, (blk_cell HGW6.out 2).trans rfl, (blk_cell HGW6.out 3).trans rfl, (blk_cell HGQ6.out 0).trans rfl, (blk_cell HGQ6.out 1).trans rfl, (blk_cell HGQ6.out 2).trans rfl, (blk_cell HGQ6.out 3).trans rfl⟩ (fun hHeld => ?_)
                refine with_tabW writes_tab24 writes_bits24 (fun HT_ HW_ => ?_)
                generalize wr.drew = w6 at HB6 HWS6 HGW6 HGQ6 HG36 hHeld ⊢
                refine pure_ (i := 0) (N := some 79) (v := ?_) (a' := ?_) #[true, false, false, false, false, false, false, false, false] rfl rfl (any_of HT_.out (by kernel_rfl)) (fun _ _ _ h => h) (Or.inl ⟨by rfl, ?_⟩) ?_ ?_
                rotate_left
                · intro w'
                  go_simp
                  with_reducible rfl
                rotate_left
                · simp only [Act.put, List.setIfInBounds_toArray, List.set_cons_zero, List.set_cons_succ, i64_w, i32_w]
                  rfl
                refine pure_ (i := 1) (N := some 80) (v := ?_) (a' := ?_) #[true, true, false, false, false, false, false, false, false] rfl rfl (any_of HT_.out (by kernel_rfl)) (fun _ _ _ h => h) (Or.inl ⟨by rfl, ?_⟩) ?_ ?_
                rotate_left
                · intro w'
                  go_simp
                  with_reducible rfl
                rotate_left
                · simp only [Act.put, List.setIfInBounds_toArray, List.set_cons_zero, List.set_cons_succ, i64_w, i32_w]
                  rfl
                refine pure_ (i := 2) (N := some 81) (v := ?_) (a' := ?_) #[true, true, true, false, false, false, false, false, false] rfl rfl (any_of HT_.out (by kernel_rfl)) (fun _ _ _ h => h) (Or.inl ⟨by rfl, ?_⟩) ?_ ?_
                rotate_left
                · intro w'
                  go_simp
                  with_reducible rfl
                rotate_left
                · simp only [Act.put, List.setIfInBounds_toArray, List.set_cons_zero, List.set_cons_succ, i64_w, i32_w]
                  rfl
                refine pure_ (i := 4) (N := some 83) (v := ?_) (a' := ?_) #[true, true, true, false, true, false, false, false, false] rfl rfl (any_of HT_.out (by kernel_rfl)) (fun _ _ _ h => h) (Or.inl ⟨by rfl, ?_⟩) ?_ ?_
                rotate_left
                · intro w'
                  go_simp
                  with_reducible rfl
                rotate_left
                · simp only [Act.put, List.setIfInBounds_toArray, List.set_cons_zero, List.set_cons_succ, i64_w, i32_w]
                  rfl
                refine pure_ (i := 5) (N := some 84) (v := ?_) (a' := ?_) #[true, true, true, false, true, true, false, false, false] rfl rfl (any_of HT_.out (by kernel_rfl)) (fun _ _ _ h => h) (Or.inl ⟨by rfl, ?_⟩) ?_ ?_
                rotate_left
                · intro w'
                  go_simp
                  with_reducible rfl
                rotate_left
                · simp only [Act.put, List.setIfInBounds_toArray, List.set_cons_zero, List.set_cons_succ, i64_w, i32_w]
                  rfl
                refine take_ (i := 3) (N := some 82) (v := ?_) (a' := ?_) #[true, true, true, true, true, true, false, false, false] rfl rfl (take_ofW HT_.out HW_.out (by kernel_rfl)) (fun _ _ _ h => h) (Or.inl ⟨by rfl, ?_⟩) hHeld ?_ ?_
                rotate_left
                · rintro w' ⟨s0, s1, s2, s3, s4, s5, s6, s7⟩
                  go_simp
                  with_reducible rfl
                rotate_left
                · simp only [Act.put, List.setIfInBounds_toArray, List.set_cons_zero, List.set_cons_succ, i64_w, i32_w]
                  rfl
                refine take_ (i := 6) (N := some 85) (v := ?_) (a' := ?_) #[true, true, true, true, true, true, true, false, false] rfl rfl (take_ofW HT_.out HW_.out (by kernel_rfl)) (fun _ _ _ h => h) (Or.inl ⟨by rfl, ?_⟩) hHeld ?_ ?_
                rotate_left
                · rintro w' ⟨s0, s1, s2, s3, s4, s5, s6, s7⟩
                  go_simp
                  with_reducible rfl
                rotate_left
                · simp only [Act.put, List.setIfInBounds_toArray, List.set_cons_zero, List.set_cons_succ, i64_w, i32_w]
                  rfl
                refine one_ (i := 7) (N := some 86) #[true, true, true, true, true, true, true, true, false] rfl rfl (one_of HT_.out (by kernel_rfl)) (by decide) (fun K hK => ?_)
                refine goes_ Try.func22 (by kernel_rfl) rfl #[.pointer none, .slice none 0 0] (by rfl) rfl rfl (by (try simp only [List.map_toArray, List.map_cons, List.map_nil]); first | done | rfl) ?_
                refine (hand_calls (.pointer none) [] w6 none 0 (Kd.C_nil _ _) (Nat.le_refl _) (by simp) (ask_dead (Or.inl rfl))).mono ?_
                rintro e w7 ⟨rfl, hb⟩
                refine ⟨_, rfl, ?_⟩
                have HB7 := Aside0.mk (below_step HB6.out hb)
                have HWS7 := Aside0.mk (HWS6.out.below hb)
                have HGW7 := Aside0.mk ((hb.block _ (blk_lt HGW6.out)).trans HGW6.out)
                have HGQ7 := Aside0.mk ((hb.block _ (blk_lt HGQ6.out)).trans HGQ6.out)
                have HG37 := Aside0.mk ((hb.block _ (blk_lt HG36.out)).trans HG36.out)
                clear HB6 HWS6 HGW6 HGQ6 HG36 hb
                refine hK.out _ _ ⟨(blk_cell HGW7.out 0).trans rfl, (blk_cell HGW7.out 1).trans rfl, (blk_cell HGW7.out 2).trans rfl, (blk_cell HGW7.out 3).trans rfl, (blk_cell HGQ7.out 0).trans rfl, (blk_cell HGQ7.out 1).trans rfl, (blk_cell HGQ7.out 2).trans rfl, (blk_cell HGQ7.out 3).trans rfl⟩ (fun hHeld => ?_)
                clear hK K
                refine norm_ (a' := ?_) ?_ ?_
                rotate_left
                · show Act.put _ (some 86) _ = _
                  simp only [Act.put, List.setIfInBounds_toArray, List.set_cons_zero, List.set_cons_succ, i64_w, i32_w]
                  rfl
                refine pure_ (i := 8) (N := some 87) (v := ?_) (a' := ?_) #[true, true, true, true, true, true, true, true, true] rfl rfl (any_of HT_.out (by kernel_rfl)) (fun _ _ _ h => h) (Or.inl ⟨by rfl, ?_⟩) ?_ ?_
                rotate_left
                · intro w'
                  go_simp
                  with_reducible rfl
                rotate_left
                · simp only [Act.put, List.setIfInBounds_toArray, List.set_cons_zero, List.set_cons_succ, i64_w, i32_w]
                  rfl
                refine done_ (done_of HT_.out (by kernel_rfl)) ?_
                clear hHeld HT_ HW_
                go_wp2
                go_roundg kk
                case measure => omega
                case rel => exact ⟨3, by first | rfl | simp, ⟨by have := HK.out; omega⟩, HB7, HWS7, HGW7, HGQ7, HG37⟩
            · as_aux_lemma =>
                go_wp2_with fail
                have hbd : Below wr.heap.size wr wr.drew := below_drew1 (Below.refl _ _)
                have HB6 := Aside0.mk (below_step HBr.out hbd)
                have HWS6 := Aside0.mk (HWSr.out.below hbd)
                have HGW6 := Aside0.mk ((hbd.block _ (blk_lt HGWr.out)).trans HGWr.out)
                have HGQ6 := Aside0.mk ((hbd.block _ (blk_lt HGQr.out)).trans HGQr.out)
                have HG36 := Aside0.mk ((hbd.block _ (blk_lt HG3r.out)).trans HG3r.out)
                clear HBr HWSr HGWr HGQr HG3r hbd
                refine start_ (n := 9) (S := fun w' => w'.cell? ⟨w2.heap.size + 1, 0, none⟩ = some (.pointer (some ⟨w.heap.size, 0, none⟩)) ∧ w'.cell? ⟨w2.heap.size + 1, 1, none⟩ = some (.pointer (some ⟨w1.heap.size, 0, none⟩)) ∧ w'.cell? ⟨w2.heap.size + 1, 2, none⟩ = some (.pointer none) ∧ w'.cell? ⟨w2.heap.size + 1, 3, none⟩ = some (.pointer (some ⟨w2.heap.size, 0, none⟩)) ∧ w'.cell? ⟨w2.heap.size + 1 + 1, 0, none⟩ = some (.slice Ah0 l0.length ch0) ∧ w'.cell? ⟨w2.heap.size + 1 + 1, 1, none⟩ = some (.slice Ah1 l1.length ch1) ∧ w'.cell? ⟨w2.heap.size + 1 + 1, 2, none⟩ = some (.slice none 0 0) ∧ w'.cell? ⟨w2.heap.size + 1 + 1, 3, none⟩ = some (.slice none 0 0)) (ds := []) #[false, false, false, false, false, false, false, false, false] (by kernel_rfl) rfl rfl ⟨(blk_cell HGW6.out 0).trans rfl, (blk_cell HGW6.out 1).trans rfl, (blk_cell HGW6.out 2).trans rfl, (blk_cell HGW6.out 3).trans rfl, (blk_cell HGQ6.out 0).trans rfl, (blk_cell HGQ6.out 1).trans rfl, (blk_cell HGQ6.out 2).trans rfl, (blk_cell HGQ6.out 3).trans rfl⟩ (fun hHeld => ?_)
                refine with_tabW writes_tab24 writes_bits24 (fun HT_ HW_ => ?_)
                generalize wr.drew = w6 at HB6 HWS6 HGW6 HGQ6 HG36 hHeld ⊢
                refine pure_ (i := 0) (N := some 79) (v := ?_) (a' := ?_) #[true, false, false, false, false, false, false, false, false] rfl rfl (any_of HT_.out (by kernel_rfl)) (fun _ _ _ h => h) (Or.inl ⟨by rfl, ?_⟩) ?_ ?_
                rotate_left
                · intro w'
                  go_simp
                  with_reducible rfl
                rotate_left
                · simp only [Act.put, List.setIfInBounds_toArray, List.set_cons_zero, List.set_cons_succ, i64_w, i32_w]
                  rfl
                refine pure_ (i := 1) (N := some 80) (v := ?_) (a' := ?_) #[true, true, false, false, false, false, false, false, false] rfl rfl (any_of HT_.out (by kernel_rfl)) (fun _ _ _ h => h) (Or.inl ⟨by rfl, ?_⟩) ?_ ?_
                rotate_left
                · intro w'
                  go_simp
                  with_reducible rfl
                rotate_left
                · simp only [Act.put, List.setIfInBounds_toArray, List.set_cons_zero, List.set_cons_succ, i64_w, i32_w]
                  rfl
                refine pure_ (i := 2) (N := some 81) (v := ?_) (a' := ?_) #[true, true, true, false, false, false, false, false, false] rfl rfl (any_of HT_.out (by kernel_rfl)) (fun _ _ _ h => h) (Or.inl ⟨by rfl, ?_⟩) ?_ ?_
                rotate_left
                · intro w'
                  go_simp
                  with_reducible rfl
                rotate_left
                · simp only [Act.put, List.setIfInBounds_toArray, List.set_cons_zero, List.set_cons_succ, i64_w, i32_w]
                  rfl
                refine pure_ (i := 4) (N := some 83) (v := ?_) (a' := ?_) #[true, true, true, false, true, false, false, false, false] rfl rfl (any_of HT_.out (by kernel_rfl)) (fun _ _ _ h => h) (Or.inl ⟨by rfl, ?_⟩) ?_ ?_
                rotate_left
                · intro w'
                  go_simp
                  with_reducible rfl
                rotate_left
                · simp only [Act.put, List.setIfInBounds_toArray, List.set_cons_zero, List.set_cons_succ, i64_w, i32_w]
                  rfl
                refine pure_ (i := 5) (N := some 84) (v := ?_) (a' := ?_) #[true, true, true, false, true, true, false, false, false] rfl rfl (any_of HT_.out (by kernel_rfl)) (fun _ _ _ h => h) (Or.inl ⟨by rfl, ?_⟩) ?_ ?_
                rotate_left
                · intro w'
                  go_simp
                  with_reducible rfl
                rotate_left
                · simp only [Act.put, List.setIfInBounds_toArray, List.set_cons_zero, List.set_cons_succ, i64_w, i32_w]
                  rfl
                refine take_ (i := 3) (N := some 82) (v := ?_) (a' := ?_) #[true, true, true, true, true, true, false, false, false] rfl rfl (take_ofW HT_.out HW_.out (by kernel_rfl)) (fun _ _ _ h => h) (Or.inl ⟨by rfl, ?_⟩) hHeld ?_ ?_
                rotate_left
                · rintro w' ⟨s0, s1, s2, s3, s4, s5, s6, s7⟩
                  go_simp
                  with_reducible rfl
                rotate_left
                · simp only [Act.put, List.setIfInBounds_toArray, List.set_cons_zero, List.set_cons_succ, i64_w, i32_w]
                  rfl
                refine take_ (i := 6) (N := some 85) (v := ?_) (a' := ?_) #[true, true, true, true, true, true, true, false, false] rfl rfl (take_ofW HT_.out HW_.out (by kernel_rfl)) (fun _ _ _ h => h) (Or.inl ⟨by rfl, ?_⟩) hHeld ?_ ?_
                rotate_left
                · rintro w' ⟨s0, s1, s2, s3, s4, s5, s6, s7⟩
                  go_simp
                  with_reducible rfl
                rotate_left
                · simp only [Act.put, List.setIfInBounds_toArray, List.set_cons_zero, List.set_cons_succ, i64_w, i32_w]
                  rfl
                refine one_ (i := 7) (N := some 86) #[true, true, true, true, true, true, true, true, false] rfl rfl (one_of HT_.out (by kernel_rfl)) (by decide) (fun K hK => ?_)
                refine goes_ Try.func22 (by kernel_rfl) rfl #[.pointer (some ⟨w2.heap.size, 0, none⟩), .slice none 0 0] (by rfl) rfl rfl (by (try simp only [List.map_toArray, List.map_cons, List.map_nil]); first | done | rfl) ?_
                refine (hand_calls (.pointer (some ⟨w2.heap.size, 0, none⟩)) [] w6 none 0 (Kd.C_nil _ _) (Nat.le_refl _) (by simp) (ask_dead (Or.inr ⟨w2.heap.size, rfl, HG36.out⟩))).mono ?_
                rintro e w7 ⟨rfl, hb⟩
                refine ⟨_, rfl, ?_⟩
                have HB7 := Aside0.mk (below_step HB6.out hb)
                have HWS7 := Aside0.mk (HWS6.out.below hb)
                have HGW7 := Aside0.mk ((hb.block _ (blk_lt HGW6.out)).trans HGW6.out)
                have HGQ7 := Aside0.mk ((hb.block _ (blk_lt HGQ6.out)).trans HGQ6.out)
                have HG37 := Aside0.mk ((hb.block _ (blk_lt HG36.out)).trans HG36.out)
                clear HB6 HWS6 HGW6 HGQ6 HG36 hb
                refine hK.out _ _ ⟨(blk_cell HGW7.out 0).trans rfl, (blk_cell HGW7.out 1).trans rfl, (blk_cell HGW7.out 2).trans rfl, (blk_cell HGW7.out 3).trans rfl, (blk_cell HGQ7.out 0).trans rfl, (blk_cell HGQ7.out 1).trans rfl, (blk_cell HGQ7.out 2).trans rfl, (blk_cell HGQ7.out 3).trans rfl⟩ (fun hHeld => ?_)
                clear hK K
                refine norm_ (a' := ?_) ?_ ?_
                rotate_left
                · show Act.put _ (some 86) _ = _
                  simp only [Act.put, List.setIfInBounds_toArray, List.set_cons_zero, List.set_cons_succ, i64_w, i32_w]
                  rfl
                refine pure_ (i := 8) (N := some 87) (v := ?_) (a' := ?_) #[true, true, true, true, true, true, true, true, true] rfl rfl (any_of HT_.out (by kernel_rfl)) (fun _ _ _ h => h) (Or.inl ⟨by rfl, ?_⟩) ?_ ?_
                rotate_left
                · intro w'
                  go_simp
                  with_reducible rfl
                rotate_left
                · simp only [Act.put, List.setIfInBounds_toArray, List.set_cons_zero, List.set_cons_succ, i64_w, i32_w]
                  rfl
                refine done_ (done_of HT_.out (by kernel_rfl)) ?_
                clear hHeld HT_ HW_
                go_wp2
                go_roundg kk
                case measure => omega
                case rel => exact ⟨4, by first | rfl | simp, ⟨by have := HK.out; omega⟩, HB7, HWS7, HGW7, HGQ7, HG37⟩
    | succ kq =>
      have hj : j < ts.length := by have := HJ.out; omega
      obtain ⟨t, a, A', c', ht, ha, h8, hlc, hC, q0, q1, q2, q3, q4, q5, q6, q7, q8, q9, q10, q11, q12, q13, q14, q15⟩ := th_at H1.out hj
      subst ha
      have HTG : Aside0 (Good t ∧ t.t.length ≤ 1048576) := ⟨HT.out t (List.mem_of_getElem? ht)⟩
      have HC0 := Aside0.mk hC
      clear h8 hlc hC ht
      replace q0 := pw_cell_below HBr.out q0
      replace q1 := pw_cell_below HBr.out q1
      replace q2 := pw_cell_below HBr.out q2
      replace q3 := pw_cell_below HBr.out q3
      replace q4 := pw_cell_below HBr.out q4
      replace q5 := pw_cell_below HBr.out q5
      replace q6 := pw_cell_below HBr.out q6
      replace q7 := pw_cell_below HBr.out q7
      replace q8 := pw_cell_below HBr.out q8
      replace q9 := pw_cell_below HBr.out q9
      replace q10 := pw_cell_below HBr.out q10
      replace q11 := pw_cell_below HBr.out q11
      replace q12 := pw_cell_below HBr.out q12
      replace q13 := pw_cell_below HBr.out q13
      replace q14 := pw_cell_below HBr.out q14
      replace q15 := pw_cell_below HBr.out q15
      have hjl : (j : Int) < ts.length := by omega
      have hjL : (j : Int) + 1 ≤ 9223372036854775807 := by have := HLT.out; omega
      obtain ⟨kk, hkf, hk0, hk1⟩ := round_nw t.1 4 (by decide) (by decide)
      have HKF := Aside0.mk hkf
      clear hkf
      go_wp2_with fail
      refine (cabstandlaw02_round.calls t.1 4 kk _ HKF.out).mono ?_
      rintro e w5_ ⟨rfl, nq, rfl⟩
      have hbn : Below wr.heap.size wr ((wr.alloc (.cells #[.int .i64 t.1, .int .i64 t.kind, .int .u64 t.n, .int .i64 t.i, .int .i64 t.w, .int .u8 (rd t.id 0), .int .u8 (rd t.id 1), .int .u8 (rd t.id 2), .int .u8 (rd t.id 3), .int .u8 (rd t.id 4), .int .u8 (rd t.id 5), .int .u8 (rd t.id 6), .int .u8 (rd t.id 7), .int .i16 t.p.1, .int .i16 t.p.2, .slice A' t.t.length c'] 46)).drewN nq) := pw_below_drewN (below_new wr _) nq
      have HGT5 : Aside0 (((wr.alloc (.cells #[.int .i64 t.1, .int .i64 t.kind, .int .u64 t.n, .int .i64 t.i, .int .i64 t.w, .int .u8 (rd t.id 0), .int .u8 (rd t.id 1), .int .u8 (rd t.id 2), .int .u8 (rd t.id 3), .int .u8 (rd t.id 4), .int .u8 (rd t.id 5), .int .u8 (rd t.id 6), .int .u8 (rd t.id 7), .int .i16 t.p.1, .int .i16 t.p.2, .slice A' t.t.length c'] 46)).drewN nq).heap[wr.heap.size]? = some (.cells #[.int .i64 t.1, .int .i64 t.kind, .int .u64 t.n, .int .i64 t.i, .int .i64 t.w, .int .u8 (rd t.id 0), .int .u8 (rd t.id 1), .int .u8 (rd t.id 2), .int .u8 (rd t.id 3), .int .u8 (rd t.id 4), .int .u8 (rd t.id 5), .int .u8 (rd t.id 6), .int .u8 (rd t.id 7), .int .i16 t.p.1, .int .i16 t.p.2, .slice A' t.t.length c'] 46 (0, 0))) := ⟨blk_drewN (blk_new wr _) nq⟩
      have HRS : Aside0 (w2.heap.size + 1 + 1 < wr.heap.size) := ⟨blk_lt HGQr.out⟩
      have HB5 := Aside0.mk (below_step HBr.out hbn)
      have HWS5 := Aside0.mk (HWSr.out.below hbn)
      have HGW5 := Aside0.mk ((hbn.block _ (blk_lt HGWr.out)).trans HGWr.out)
      have HGQ5 := Aside0.mk ((hbn.block _ (blk_lt HGQr.out)).trans HGQr.out)
      have HG35 := Aside0.mk ((hbn.block _ (blk_lt HG3r.out)).trans HG3r.out)
      clear HBr HWSr HGWr HGQr HG3r hbn
      generalize (wr.alloc (.cells #[.int .i64 t.1, .int .i64 t.kind, .int .u64 t.n, .int .i64 t.i, .int .i64 t.w, .int .u8 (rd t.id 0), .int .u8 (rd t.id 1), .int .u8 (rd t.id 2), .int .u8 (rd t.id 3), .int .u8 (rd t.id 4), .int .u8 (rd t.id 5), .int .u8 (rd t.id 6), .int .u8 (rd t.id 7), .int .i16 t.p.1, .int .i16 t.p.2, .slice A' t.t.length c'] 46)).drewN nq = w5 at HB5 HWS5 HGW5 HGQ5 HG35 HGT5 ⊢
      clear q0 q1 q2 q3 q4 q5 q6 q7 q8 q9 q10 q11 q12 q13 q14 q15
      have hcase : kk = 0 ∨ kk = 1 ∨ kk = 2 ∨ kk = 3 := by omega
      clear hk0 hk1 HKF
      have n_qb : w.heap.size ≤ w2.heap.size + 1 + 1 := by have := HN.out; omega
      have n_w0 : w2.heap.size + 1 ≠ w.heap.size := by have := HN.out; omega
      have n_w1 : w2.heap.size + 1 ≠ w1.heap.size := by have := HN.out; omega
      have n_q0 : w2.heap.size + 1 + 1 ≠ w.heap.size := by have := HN.out; omega
      have n_q1 : w2.heap.size + 1 + 1 ≠ w1.heap.size := by have := HN.out; omega
      have n_30 : w2.heap.size ≠ w.heap.size := by have := HN.out; omega
      have n_31 : w2.heap.size ≠ w1.heap.size := by have := HN.out; omega
      have n_t0 : wr.heap.size ≠ w.heap.size := by have := HN.out; have := HRS.out; omega
      have n_t1 : wr.heap.size ≠ w1.heap.size := by have := HN.out; have := HRS.out; omega
      have n_wq : w2.heap.size + 1 ≠ w2.heap.size + 1 + 1 := by omega
      have n_3q : w2.heap.size ≠ w2.heap.size + 1 + 1 := by omega
      have n_tq : wr.heap.size ≠ w2.heap.size + 1 + 1 := by have := HRS.out; omega
      have N_QB := Aside0.mk n_qb
      have N_W0 := Aside0.mk n_w0
      have N_W1 := Aside0.mk n_w1
      have N_Q0 := Aside0.mk n_q0
      have N_Q1 := Aside0.mk n_q1
      have N_30 := Aside0.mk n_30
      have N_31 := Aside0.mk n_31
      have N_T0 := Aside0.mk n_t0
      have N_T1 := Aside0.mk n_t1
      have N_WQ := Aside0.mk n_wq
      have N_3Q := Aside0.mk n_3q
      have N_TQ := Aside0.mk n_tq
      clear n_qb n_w0 n_w1 n_q0 n_q1 n_30 n_31 n_t0 n_t1 n_wq n_3q n_tq
      rcases hcase with rfl | rfl | rfl | rfl
      · as_aux_lemma =>
          have HGTc0 : w5.cell? ⟨wr.heap.size, 0, none⟩ = some (.int .i64 t.1) := (blk_cell HGT5.out 0).trans rfl
          have HGTc1 : w5.cell? ⟨wr.heap.size, 1, none⟩ = some (.int .i64 t.kind) := (blk_cell HGT5.out 1).trans rfl
          have HGTc2 : w5.cell? ⟨wr.heap.size, 2, none⟩ = some (.int .u64 t.n) := (blk_cell HGT5.out 2).trans rfl
          have HGTc3 : w5.cell? ⟨wr.heap.size, 3, none⟩ = some (.int .i64 t.i) := (blk_cell HGT5.out 3).trans rfl
          have HGTc4 : w5.cell? ⟨wr.heap.size, 4, none⟩ = some (.int .i64 t.w) := (blk_cell HGT5.out 4).trans rfl
          have HGTc5 : w5.cell? ⟨wr.heap.size, 5, none⟩ = some (.int .u8 (rd t.id 0)) := (blk_cell HGT5.out 5).trans rfl
          have HGTc6 : w5.cell? ⟨wr.heap.size, 6, none⟩ = some (.int .u8 (rd t.id 1)) := (blk_cell HGT5.out 6).trans rfl
          have HGTc7 : w5.cell? ⟨wr.heap.size, 7, none⟩ = some (.int .u8 (rd t.id 2)) := (blk_cell HGT5.out 7).trans rfl
          have HGTc8 : w5.cell? ⟨wr.heap.size, 8, none⟩ = some (.int .u8 (rd t.id 3)) := (blk_cell HGT5.out 8).trans rfl
          have HGTc9 : w5.cell? ⟨wr.heap.size, 9, none⟩ = some (.int .u8 (rd t.id 4)) := (blk_cell HGT5.out 9).trans rfl
          have HGTc10 : w5.cell? ⟨wr.heap.size, 10, none⟩ = some (.int .u8 (rd t.id 5)) := (blk_cell HGT5.out 10).trans rfl
          have HGTc11 : w5.cell? ⟨wr.heap.size, 11, none⟩ = some (.int .u8 (rd t.id 6)) := (blk_cell HGT5.out 11).trans rfl
          have HGTc12 : w5.cell? ⟨wr.heap.size, 12, none⟩ = some (.int .u8 (rd t.id 7)) := (blk_cell HGT5.out 12).trans rfl
          have HGTc13 : w5.cell? ⟨wr.heap.size, 13, none⟩ = some (.int .i16 t.p.1) := (blk_cell HGT5.out 13).trans rfl
          have HGTc14 : w5.cell? ⟨wr.heap.size, 14, none⟩ = some (.int .i16 t.p.2) := (blk_cell HGT5.out 14).trans rfl
          have HGTc15 : w5.cell? ⟨wr.heap.size, 15, none⟩ = some (.slice A' t.t.length c') := (blk_cell HGT5.out 15).trans rfl
          go_wp2_with fail
          refine (form_all t HTG.out.1 A' c' _ (Kd.C_below HC0.out HB5.out) (by have := HTG.out.2; omega)).mono ?_
          rintro e w6 ⟨vf, rfl, hrf, hb⟩
          clear HGTc0 HGTc1 HGTc2 HGTc3 HGTc4 HGTc5 HGTc6 HGTc7 HGTc8 HGTc9 HGTc10 HGTc11 HGTc12 HGTc13 HGTc14 HGTc15
          obtain ⟨Af, cf, ef, hlf, _⟩ := hrf.len
          subst ef
          have HLT6 : Aside0 (∀ k, fp w.heap.size vw0 k → k < w5.heap.size) := ⟨fun k hk => (HWS5.out.w0.lt k hk).2⟩
          have HPL := Aside0.mk (put_lew t HTG.out.1 HTG.out.2)
          obtain ⟨ln, hln⟩ : ∃ ln, ln = l0 ++ (putB t).1 := ⟨_, rfl⟩
          have HLN := Aside0.mk hln
          clear hln
          have HRF6 : Aside0 (Row w6 w5.heap.size (.slice Af (putB t).1.length cf) (putB t).1) := ⟨hrf⟩
          clear hrf
          have HB6 := Aside0.mk (below_step HB5.out hb)
          have HWS6 := Aside0.mk (HWS5.out.below hb)
          have HGW6 := Aside0.mk ((hb.block _ (blk_lt HGW5.out)).trans HGW5.out)
          have HGQ6 := Aside0.mk ((hb.block _ (blk_lt HGQ5.out)).trans HGQ5.out)
          have HG36 := Aside0.mk ((hb.block _ (blk_lt HG35.out)).trans HG35.out)
          have HGT6 := Aside0.mk ((hb.block _ (blk_lt HGT5.out)).trans HGT5.out)
          clear HB5 HWS5 HGW5 HGQ5 HG35 HGT5 hb
          go_wp2_with fail
          have hbd : Below w6.heap.size w6 w6.drew := below_drew1 (Below.refl _ _)
          have HB7 := Aside0.mk (below_step HB6.out hbd)
          have HWS7 := Aside0.mk (HWS6.out.below hbd)
          have HGW7 := Aside0.mk ((hbd.block _ (blk_lt HGW6.out)).trans HGW6.out)
          have HGQ7 := Aside0.mk ((hbd.block _ (blk_lt HGQ6.out)).trans HGQ6.out)
          have HG37 := Aside0.mk ((hbd.block _ (blk_lt HG36.out)).trans HG36.out)
          have HGT7 := Aside0.mk ((hbd.block _ (blk_lt HGT6.out)).trans HGT6.out)
          have HRF7 := Aside0.mk (HRF6.out.below hbd)
          clear HB6 HWS6 HGW6 HGQ6 HG36 HGT6 HRF6 hbd
          refine start_ (n := 8) (S := fun w' => w'.cell? ⟨w2.heap.size + 1, 0, none⟩ = some (.pointer (some ⟨w.heap.size, 0, none⟩)) ∧ w'.cell? ⟨w2.heap.size + 1, 1, none⟩ = some (.pointer (some ⟨w1.heap.size, 0, none⟩)) ∧ w'.cell? ⟨w2.heap.size + 1, 2, none⟩ = some (.pointer none) ∧ w'.cell? ⟨w2.heap.size + 1, 3, none⟩ = some (.pointer (some ⟨w2.heap.size, 0, none⟩)) ∧ w'.cell? ⟨wr.heap.size, 0, none⟩ = some (.int .i64 t.1) ∧ w'.cell? ⟨wr.heap.size, 1, none⟩ = some (.int .i64 t.kind) ∧ w'.cell? ⟨wr.heap.size, 2, none⟩ = some (.int .u64 t.n) ∧ w'.cell? ⟨wr.heap.size, 3, none⟩ = some (.int .i64 t.i) ∧ w'.cell? ⟨wr.heap.size, 4, none⟩ = some (.int .i64 t.w) ∧ w'.cell? ⟨wr.heap.size, 5, none⟩ = some (.int .u8 (rd t.id 0)) ∧ w'.cell? ⟨wr.heap.size, 6, none⟩ = some (.int .u8 (rd t.id 1)) ∧ w'.cell? ⟨wr.heap.size, 7, none⟩ = some (.int .u8 (rd t.id 2)) ∧ w'.cell? ⟨wr.heap.size, 8, none⟩ = some (.int .u8 (rd t.id 3)) ∧ w'.cell? ⟨wr.heap.size, 9, none⟩ = some (.int .u8 (rd t.id 4)) ∧ w'.cell? ⟨wr.heap.size, 10, none⟩ = some (.int .u8 (rd t.id 5)) ∧ w'.cell? ⟨wr.heap.size, 11, none⟩ = some (.int .u8 (rd t.id 6)) ∧ w'.cell? ⟨wr.heap.size, 12, none⟩ = some (.int .u8 (rd t.id 7)) ∧ w'.cell? ⟨wr.heap.size, 13, none⟩ = some (.int .i16 t.p.1) ∧ w'.cell? ⟨wr.heap.size, 14, none⟩ = some (.int .i16 t.p.2) ∧ w'.cell? ⟨wr.heap.size, 15, none⟩ = some (.slice A' t.t.length c')) (ds := []) #[false, false, false, false, false, false, false, false] (by kernel_rfl) rfl rfl ⟨(blk_cell HGW7.out 0).trans rfl, (blk_cell HGW7.out 1).trans rfl, (blk_cell HGW7.out 2).trans rfl, (blk_cell HGW7.out 3).trans rfl, (blk_cell HGT7.out 0).trans rfl, (blk_cell HGT7.out 1).trans rfl, (blk_cell HGT7.out 2).trans rfl, (blk_cell HGT7.out 3).trans rfl, (blk_cell HGT7.out 4).trans rfl, (blk_cell HGT7.out 5).trans rfl, (blk_cell HGT7.out 6).trans rfl, (blk_cell HGT7.out 7).trans rfl, (blk_cell HGT7.out 8).trans rfl, (blk_cell HGT7.out 9).trans rfl, (blk_cell HGT7.out 10).trans rfl, (blk_cell HGT7.out 11).trans rfl, (blk_cell HGT7.out 12).trans rfl, (blk_cell HGT7.out 13).trans rfl, (blk_cell HGT7.out 14).trans rfl, (blk_cell HGT7.out 15).trans rfl⟩ (fun hHeld => ?_)
          refine with_tabW writes_tab16 writes_bits16 (fun HT_ HW_ => ?_)
          generalize w6.drew = w7 at HB7 HWS7 HGW7 HGQ7 HG37 HGT7 HRF7 hHeld ⊢
          refine pure_ (i := 0) (N := some 51) (v := ?_) (a' := ?_) #[true, false, false, false, false, false, false, false] rfl rfl (any_of HT_.out (by kernel_rfl)) (fun _ _ _ h => h) (Or.inl ⟨by rfl, ?_⟩) ?_ ?_
          rotate_left
          · intro w'
            go_simp
            with_reducible rfl
          rotate_left
          · simp only [Act.put, List.setIfInBounds_toArray, List.set_cons_zero, List.set_cons_succ, i64_w, i32_w]
            rfl
          refine pure_ (i := 1) (N := some 52) (v := ?_) (a' := ?_) #[true, true, false, false, false, false, false, false] rfl rfl (any_of HT_.out (by kernel_rfl)) (fun _ _ _ h => h) (Or.inl ⟨by rfl, ?_⟩) ?_ ?_
          rotate_left
          · intro w'
            go_simp
            with_reducible rfl
          rotate_left
          · simp only [Act.put, List.setIfInBounds_toArray, List.set_cons_zero, List.set_cons_succ, i64_w, i32_w]
            rfl
          refine pure_ (i := 2) (N := some 53) (v := ?_) (a' := ?_) #[true, true, true, false, false, false, false, false] rfl rfl (any_of HT_.out (by kernel_rfl)) (fun _ _ _ h => h) (Or.inl ⟨by rfl, ?_⟩) ?_ ?_
          rotate_left
          · intro w'
            go_simp
            with_reducible rfl
          rotate_left
          · simp only [Act.put, List.setIfInBounds_toArray, List.set_cons_zero, List.set_cons_succ, i64_w, i32_w]
            rfl
          refine take_ (i := 3) (N := some 54) (v := ?_) (a' := ?_) #[true, true, true, true, false, false, false, false] rfl rfl (take_ofW HT_.out HW_.out (by kernel_rfl)) (fun _ _ _ h => h) (Or.inl ⟨by rfl, ?_⟩) hHeld ?_ ?_
          rotate_left
          · rintro w' ⟨s0, s1, s2, s3, s4, s5, s6, s7, s8, s9, s10, s11, s12, s13, s14, s15, s16, s17, s18, s19⟩
            go_simp
            with_reducible rfl
          rotate_left
          · simp only [Act.put, List.setIfInBounds_toArray, List.set_cons_zero, List.set_cons_succ, i64_w, i32_w]
            rfl
          refine take_ (i := 4) (N := some 55) (v := ?_) (a' := ?_) #[true, true, true, true, true, false, false, false] rfl rfl (take_ofW HT_.out HW_.out (by kernel_rfl)) (fun _ _ _ h => h) (Or.inl ⟨by rfl, ?_⟩) hHeld ?_ ?_
          rotate_left
          · rintro w' ⟨s0, s1, s2, s3, s4, s5, s6, s7, s8, s9, s10, s11, s12, s13, s14, s15, s16, s17, s18, s19⟩
            go_simp
            with_reducible rfl
          rotate_left
          · simp only [Act.put, List.setIfInBounds_toArray, List.set_cons_zero, List.set_cons_succ, i64_w, i32_w]
            rfl
          refine pure_ (i := 6) (N := some 57) (v := ?_) (a' := ?_) #[true, true, true, true, true, false, true, false] rfl rfl (any_of HT_.out (by kernel_rfl)) (fun _ _ _ h => h) (Or.inl ⟨by rfl, ?_⟩) ?_ ?_
          rotate_left
          · intro w'
            go_simp
            with_reducible rfl
          rotate_left
          · simp only [Act.put, List.setIfInBounds_toArray, List.set_cons_zero, List.set_cons_succ, i64_w, i32_w]
            rfl
          refine one_ (i := 5) (N := some 56) #[true, true, true, true, true, true, true, false] rfl rfl (one_of HT_.out (by kernel_rfl)) (by decide) (fun K hK => ?_)
          refine goes_ Try.func21 (by kernel_rfl) rfl #[.pointer (some ⟨w.heap.size, 0, none⟩), .agg #[.int .i64 t.1, .int .i64 t.kind, .int .u64 t.n, .int .i64 t.i, .int .i64 t.w, .int .u8 (rd t.id 0), .int .u8 (rd t.id 1), .int .u8 (rd t.id 2), .int .u8 (rd t.id 3), .int .u8 (rd t.id 4), .int .u8 (rd t.id 5), .int .u8 (rd t.id 6), .int .u8 (rd t.id 7), .int .i16 t.p.1, .int .i16 t.p.2, .slice A' t.t.length c']] (by rfl) rfl rfl (by (try simp only [List.map_toArray, List.map_cons, List.map_nil]); first | done | rfl) ?_
          refine (put_all w.heap.size w.heap.size vw0 l0 w7 HWS7.out.w0 HB7.out.size t HTG.out.1 A' c' (Kd.C_below HC0.out HB7.out) (by have h := bndw_top HBN.out.1 HJT.out; have := HTG.out.2; omega)).mono ?_
          rintro e w8 ⟨rfl, hwr⟩
          rw [← HLN.out] at hwr
          refine ⟨_, rfl, ?_⟩
          obtain ⟨vx, hws, hc⟩ := HWS7.out.wrote hwr
          have HB8 : Aside0 (Below w.heap.size w w8) := ⟨HB7.out.trans (hc.below HB7.out.size (fun i hi => (HWS7.out.w0.lt i hi).1))⟩
          have HWS8 := Aside0.mk hws
          have HGW8 := Aside0.mk (hc.heap HGW7.out (far_w HWS7.out.w0 HGW7.out (by decide) N_W0.out))
          have HGQ8 := Aside0.mk (hc.heap HGQ7.out (far_w HWS7.out.w0 HGQ7.out (by decide) N_Q0.out))
          have HG38 := Aside0.mk (hc.heap HG37.out (far_w HWS7.out.w0 HG37.out (by decide) N_30.out))
          have HGT8 := Aside0.mk (hc.heap HGT7.out (far_w HWS7.out.w0 HGT7.out (by decide) N_T0.out))
          have HRF8 := Aside0.mk (HRF7.out.move (fun i hi => hc.block i (own_lt HRF7.out i hi) (fun e => by have h1 := own_base HRF7.out i hi; have h2 := HLT6.out i e; omega)))
          clear hws hc hwr HLT6 HB7 HWS7 HGW7 HGQ7 HG37 HGT7 HRF7
          refine hK.out _ _ ⟨(blk_cell HGW8.out 0).trans rfl, (blk_cell HGW8.out 1).trans rfl, (blk_cell HGW8.out 2).trans rfl, (blk_cell HGW8.out 3).trans rfl, (blk_cell HGT8.out 0).trans rfl, (blk_cell HGT8.out 1).trans rfl, (blk_cell HGT8.out 2).trans rfl, (blk_cell HGT8.out 3).trans rfl, (blk_cell HGT8.out 4).trans rfl, (blk_cell HGT8.out 5).trans rfl, (blk_cell HGT8.out 6).trans rfl, (blk_cell HGT8.out 7).trans rfl, (blk_cell HGT8.out 8).trans rfl, (blk_cell HGT8.out 9).trans rfl, (blk_cell HGT8.out 10).trans rfl, (blk_cell HGT8.out 11).trans rfl, (blk_cell HGT8.out 12).trans rfl, (blk_cell HGT8.out 13).trans rfl, (blk_cell HGT8.out 14).trans rfl, (blk_cell HGT8.out 15).trans rfl⟩ (fun hHeld => ?_)
          clear hK K
          refine norm_ (a' := ?_) ?_ ?_
          rotate_left
          · show Act.put _ (some 56) _ = _
            simp only [Act.put, List.setIfInBounds_toArray, List.set_cons_zero, List.set_cons_succ, i64_w, i32_w]
            rfl
          refine pure_ (i := 7) (N := some 58) (v := ?_) (a' := ?_) #[true, true, true, true, true, true, true, true] rfl rfl (any_of HT_.out (by kernel_rfl)) (fun _ _ _ h => h) (Or.inl ⟨by rfl, ?_⟩) ?_ ?_
          rotate_left
          · intro w'
            go_simp
            with_reducible rfl
          rotate_left
          · simp only [Act.put, List.setIfInBounds_toArray, List.set_cons_zero, List.set_cons_succ, i64_w, i32_w]
            rfl
          refine done_ (done_of HT_.out (by kernel_rfl)) ?_
          clear hHeld HT_ HW_
          have HGQc0 : w8.cell? ⟨w2.heap.size + 1 + 1, 0, none⟩ = some (v0) := (blk_cell HGQ8.out 0).trans rfl
          obtain ⟨Af_, cf_, ef_, _, hCf⟩ := HRF8.out.len
          cases ef_
          go_wp2_with ((with_reducible refine gate_builtin (b := .append) (xs := #[.tmp 62, .tmp 63]) rfl ?_); at_builtin; refine app_row (w0 := w) rfl (.tmp 62) (.tmp 63) rfl (v0) (l0) (putB t).1 Af cf rfl rfl HWS8.out.r0 hCf HB8.out (by have h := bndw_top HBN.out.1 HJT.out; have := HPL.out; omega) ?_; intro vy w9 h1 h2 h3 h4; rw [← HLN.out] at h1; have HB9 := Aside0.mk h4; have HWS9 := Aside0.mk (HWS8.out.grow h1 h2 h3); have HGW9 := Aside0.mk (blk_grown HGW8.out h2 (fun e => row_ne HWS8.out.r0 HGW8.out (by decide) e.symm)); have HGQ9 := Aside0.mk (blk_grown HGQ8.out h2 (fun e => row_ne HWS8.out.r0 HGQ8.out (by decide) e.symm)); have HG39 := Aside0.mk (blk_grown HG38.out h2 (fun e => row_ne HWS8.out.r0 HG38.out (by decide) e.symm)); have HGT9 := Aside0.mk (blk_grown HGT8.out h2 (fun e => row_ne HWS8.out.r0 HGT8.out (by decide) e.symm)); clear h1 h2 h3 h4 hCf HGQc0 HRF8 HB8 HWS8 HGW8 HGQ8 HG38 HGT8; obtain ⟨Ah0, ch0, ey_, hy_, _⟩ := HWS9.out.r0.len; subst ey_; have HLH0 := Aside0.mk hy_; clear hy_; have qd : w9.cell? ⟨w2.heap.size + 1 + 1, 0, none⟩ = some (v0) := (blk_cell HGQ9.out 0).trans rfl; have qf := blk_frozen HGQ9.out 0)
          clear qd qf
          have hch : Chg (· = w2.heap.size + 1 + 1) w9 (w9.setCell ⟨w2.heap.size + 1 + 1, 0, none⟩ (.slice Ah0 (ln).length ch0)) := Chg.setCell (F := (· = w2.heap.size + 1 + 1)) (Chg.refl _ _) (p := ⟨w2.heap.size + 1 + 1, 0, none⟩) (Or.inl rfl) _
          have HB10 : Aside0 (Below w.heap.size w (w9.setCell ⟨w2.heap.size + 1 + 1, 0, none⟩ (.slice Ah0 (ln).length ch0))) := ⟨HB9.out.trans (hch.below HB9.out.size (fun i hi => by have e : i = w2.heap.size + 1 + 1 := hi; rw [e]; exact N_QB.out))⟩
          have HWS10 := Aside0.mk (HWS9.out.cell hch HGQ9.out (by decide) N_Q0.out N_Q1.out)
          have HGW10 := Aside0.mk (hch.heap HGW9.out N_WQ.out)
          have HGQ10 := Aside0.mk (blk_put HGQ9.out 0 (.slice Ah0 (ln).length ch0) rfl)
          have HG310 := Aside0.mk (hch.heap HG39.out N_3Q.out)
          have HGT10 := Aside0.mk (hch.heap HGT9.out N_TQ.out)
          clear hch HB9 HWS9 HGW9 HGQ9 HG39 HGT9
          generalize (w9.setCell ⟨w2.heap.size + 1 + 1, 0, none⟩ (.slice Ah0 (ln).length ch0)) = w10 at HB10 HWS10 HGW10 HGQ10 HG310 HGT10 ⊢
          obtain ⟨jt, hjt⟩ : ∃ jt, jt = j + 1 := ⟨_, rfl⟩
          have HBH : Aside0 (BndW (ln).length jt ∧ BndW (l1).length jt) := ⟨by rw [hjt, HLN.out, List.length_append]; exact ⟨bndw_step HBN.out.1 HPL.out, bndw_next HBN.out.2⟩⟩
          have HJH : Aside0 (jt ≤ 1048576) := ⟨by have := HJ.out; have := HLT.out; omega⟩
          have HJTE := Aside0.mk hjt
          clear hjt
          have hbd : Below w10.heap.size w10 w10.drew := below_drew1 (Below.refl _ _)
          have HB11 := Aside0.mk (below_step HB10.out hbd)
          have HWS11 := Aside0.mk (HWS10.out.below hbd)
          have HGW11 := Aside0.mk ((hbd.block _ (blk_lt HGW10.out)).trans HGW10.out)
          have HGQ11 := Aside0.mk ((hbd.block _ (blk_lt HGQ10.out)).trans HGQ10.out)
          have HG311 := Aside0.mk ((hbd.block _ (blk_lt HG310.out)).trans HG310.out)
          have HGT11 := Aside0.mk ((hbd.block _ (blk_lt HGT10.out)).trans HGT10.out)
          clear HB10 HWS10 HGW10 HGQ10 HG310 HGT10 hbd
          refine start_ (n := 9) (S := fun w' => w'.cell? ⟨w2.heap.size + 1, 0, none⟩ = some (.pointer (some ⟨w.heap.size, 0, none⟩)) ∧ w'.cell? ⟨w2.heap.size + 1, 1, none⟩ = some (.pointer (some ⟨w1.heap.size, 0, none⟩)) ∧ w'.cell? ⟨w2.heap.size + 1, 2, none⟩ = some (.pointer none) ∧ w'.cell? ⟨w2.heap.size + 1, 3, none⟩ = some (.pointer (some ⟨w2.heap.size, 0, none⟩)) ∧ w'.cell? ⟨w2.heap.size + 1 + 1, 0, none⟩ = some (.slice Ah0 (ln).length ch0) ∧ w'.cell? ⟨w2.heap.size + 1 + 1, 1, none⟩ = some (v1) ∧ w'.cell? ⟨w2.heap.size + 1 + 1, 2, none⟩ = some (.slice none 0 0) ∧ w'.cell? ⟨w2.heap.size + 1 + 1, 3, none⟩ = some (.slice none 0 0)) (ds := []) #[false, false, false, false, false, false, false, false, false] (by kernel_rfl) rfl rfl ⟨(blk_cell HGW11.out 0).trans rfl, (blk_cell HGW11.out 1).trans rfl, (blk_cell HGW11.out 2).trans rfl, (blk_cell HGW11.out 3).trans rfl, (blk_cell HGQ11.out 0).trans rfl, (blk_cell HGQ11.out 1).trans rfl, (blk_cell HGQ11.out 2).trans rfl, (blk_cell HGQ11.out 3).trans rfl⟩ (fun hHeld => ?_)
          refine with_tabW writes_tab19 writes_bits19 (fun HT_ HW_ => ?_)
          generalize w10.drew = w11 at HB11 HWS11 HGW11 HGQ11 HG311 HGT11 hHeld ⊢
          refine pure_ (i := 0) (N := some 66) (v := ?_) (a' := ?_) #[true, false, false, false, false, false, false, false, false] rfl rfl (any_of HT_.out (by kernel_rfl)) (fun _ _ _ h => h) (Or.inl ⟨by rfl, ?_⟩) ?_ ?_
          rotate_left
          · intro w'
            go_simp
            with_reducible rfl
          rotate_left
          · simp only [Act.put, List.setIfInBounds_toArray, List.set_cons_zero, List.set_cons_succ, i64_w, i32_w]
            rfl
          refine pure_ (i := 1) (N := some 67) (v := ?_) (a' := ?_) #[true, true, false, false, false, false, false, false, false] rfl rfl (any_of HT_.out (by kernel_rfl)) (fun _ _ _ h => h) (Or.inl ⟨by rfl, ?_⟩) ?_ ?_
          rotate_left
          · intro w'
            go_simp
            with_reducible rfl
          rotate_left
          · simp only [Act.put, List.setIfInBounds_toArray, List.set_cons_zero, List.set_cons_succ, i64_w, i32_w]
            rfl
          refine pure_ (i := 2) (N := some 68) (v := ?_) (a' := ?_) #[true, true, true, false, false, false, false, false, false] rfl rfl (any_of HT_.out (by kernel_rfl)) (fun _ _ _ h => h) (Or.inl ⟨by rfl, ?_⟩) ?_ ?_
          rotate_left
          · intro w'
            go_simp
            with_reducible rfl
          rotate_left
          · simp only [Act.put, List.setIfInBounds_toArray, List.set_cons_zero, List.set_cons_succ, i64_w, i32_w]
            rfl
          refine pure_ (i := 4) (N := some 70) (v := ?_) (a' := ?_) #[true, true, true, false, true, false, false, false, false] rfl rfl (any_of HT_.out (by kernel_rfl)) (fun _ _ _ h => h) (Or.inl ⟨by rfl, ?_⟩) ?_ ?_
          rotate_left
          · intro w'
            go_simp
            with_reducible rfl
          rotate_left
          · simp only [Act.put, List.setIfInBounds_toArray, List.set_cons_zero, List.set_cons_succ, i64_w, i32_w]
            rfl
          refine pure_ (i := 5) (N := some 71) (v := ?_) (a' := ?_) #[true, true, true, false, true, true, false, false, false] rfl rfl (any_of HT_.out (by kernel_rfl)) (fun _ _ _ h => h) (Or.inl ⟨by rfl, ?_⟩) ?_ ?_
          rotate_left
          · intro w'
            go_simp
            with_reducible rfl
          rotate_left
          · simp only [Act.put, List.setIfInBounds_toArray, List.set_cons_zero, List.set_cons_succ, i64_w, i32_w]
            rfl
          refine take_ (i := 3) (N := some 69) (v := ?_) (a' := ?_) #[true, true, true, true, true, true, false, false, false] rfl rfl (take_ofW HT_.out HW_.out (by kernel_rfl)) (fun _ _ _ h => h) (Or.inl ⟨by rfl, ?_⟩) hHeld ?_ ?_
          rotate_left
          · rintro w' ⟨s0, s1, s2, s3, s4, s5, s6, s7⟩
            go_simp
            with_reducible rfl
          rotate_left
          · simp only [Act.put, List.setIfInBounds_toArray, List.set_cons_zero, List.set_cons_succ, i64_w, i32_w]
            rfl
          refine take_ (i := 6) (N := some 72) (v := ?_) (a' := ?_) #[true, true, true, true, true, true, true, false, false] rfl rfl (take_ofW HT_.out HW_.out (by kernel_rfl)) (fun _ _ _ h => h) (Or.inl ⟨by rfl, ?_⟩) hHeld ?_ ?_
          rotate_left
          · rintro w' ⟨s0, s1, s2, s3, s4, s5, s6, s7⟩
            go_simp
            with_reducible rfl
          rotate_left
          · simp only [Act.put, List.setIfInBounds_toArray, List.set_cons_zero, List.set_cons_succ, i64_w, i32_w]
            rfl
          refine one_ (i := 7) (N := some 73) #[true, true, true, true, true, true, true, true, false] rfl rfl (one_of HT_.out (by kernel_rfl)) (by decide) (fun K hK => ?_)
          refine goes_ Try.func22 (by kernel_rfl) rfl #[.pointer (some ⟨w.heap.size, 0, none⟩), .slice Ah0 (ln).length ch0] (by rfl) rfl rfl (by (try simp only [List.map_toArray, List.map_cons, List.map_nil]); first | done | rfl) ?_
          refine (hand_calls (.pointer (some ⟨w.heap.size, 0, none⟩)) (ln) w11 Ah0 ch0 (by obtain ⟨A_, c_, e_, _, hC_⟩ := HWS11.out.r0.len; cases e_; exact hC_) HLH0.out (by have h := bndw_top HBH.out.1 (j := jt) HJH.out; omega) (ask_live HWS11.out.w0 (by have h := bndw_top HBH.out.1 (j := jt) HJH.out; omega))).mono ?_
          rintro e w12 ⟨rfl, hb⟩
          refine ⟨_, rfl, ?_⟩
          have HB12 := Aside0.mk (below_step HB11.out hb)
          have HWS12 := Aside0.mk (HWS11.out.below hb)
          have HGW12 := Aside0.mk ((hb.block _ (blk_lt HGW11.out)).trans HGW11.out)
          have HGQ12 := Aside0.mk ((hb.block _ (blk_lt HGQ11.out)).trans HGQ11.out)
          have HG312 := Aside0.mk ((hb.block _ (blk_lt HG311.out)).trans HG311.out)
          have HGT12 := Aside0.mk ((hb.block _ (blk_lt HGT11.out)).trans HGT11.out)
          clear HB11 HWS11 HGW11 HGQ11 HG311 HGT11 hb
          refine hK.out _ _ ⟨(blk_cell HGW12.out 0).trans rfl, (blk_cell HGW12.out 1).trans rfl, (blk_cell HGW12.out 2).trans rfl, (blk_cell HGW12.out 3).trans rfl, (blk_cell HGQ12.out 0).trans rfl, (blk_cell HGQ12.out 1).trans rfl, (blk_cell HGQ12.out 2).trans rfl, (blk_cell HGQ12.out 3).trans rfl⟩ (fun hHeld => ?_)
          clear hK K
          refine norm_ (a' := ?_) ?_ ?_
          rotate_left
          · show Act.put _ (some 73) _ = _
            simp only [Act.put, List.setIfInBounds_toArray, List.set_cons_zero, List.set_cons_succ, i64_w, i32_w]
            rfl
          refine pure_ (i := 8) (N := some 74) (v := ?_) (a' := ?_) #[true, true, true, true, true, true, true, true, true] rfl rfl (any_of HT_.out (by kernel_rfl)) (fun _ _ _ h => h) (Or.inl ⟨by rfl, ?_⟩) ?_ ?_
          rotate_left
          · intro w'
            go_simp
            with_reducible rfl
          rotate_left
          · simp only [Act.put, List.setIfInBounds_toArray, List.set_cons_zero, List.set_cons_succ, i64_w, i32_w]
            rfl
          refine done_ (done_of HT_.out (by kernel_rfl)) ?_
          clear hHeld HT_ HW_
          go_wp2
          go_roundg kq
          case measure => omega
          case rel => exact ⟨j + 1, _, _, _, _, _, _, by first | rfl | simp, ⟨by have := HJ.out; omega⟩, ⟨by rw [← HJTE.out]; exact HBH.out⟩, HB12, HWS12, HGW12, HGQ12, HG312⟩
      · as_aux_lemma =>
          have HGTc0 : w5.cell? ⟨wr.heap.size, 0, none⟩ = some (.int .i64 t.1) := (blk_cell HGT5.out 0).trans rfl
          have HGTc1 : w5.cell? ⟨wr.heap.size, 1, none⟩ = some (.int .i64 t.kind) := (blk_cell HGT5.out 1).trans rfl
          have HGTc2 : w5.cell? ⟨wr.heap.size, 2, none⟩ = some (.int .u64 t.n) := (blk_cell HGT5.out 2).trans rfl
          have HGTc3 : w5.cell? ⟨wr.heap.size, 3, none⟩ = some (.int .i64 t.i) := (blk_cell HGT5.out 3).trans rfl
          have HGTc4 : w5.cell? ⟨wr.heap.size, 4, none⟩ = some (.int .i64 t.w) := (blk_cell HGT5.out 4).trans rfl
          have HGTc5 : w5.cell? ⟨wr.heap.size, 5, none⟩ = some (.int .u8 (rd t.id 0)) := (blk_cell HGT5.out 5).trans rfl
          have HGTc6 : w5.cell? ⟨wr.heap.size, 6, none⟩ = some (.int .u8 (rd t.id 1)) := (blk_cell HGT5.out 6).trans rfl
          have HGTc7 : w5.cell? ⟨wr.heap.size, 7, none⟩ = some (.int .u8 (rd t.id 2)) := (blk_cell HGT5.out 7).trans rfl
          have HGTc8 : w5.cell? ⟨wr.heap.size, 8, none⟩ = some (.int .u8 (rd t.id 3)) := (blk_cell HGT5.out 8).trans rfl
          have HGTc9 : w5.cell? ⟨wr.heap.size, 9, none⟩ = some (.int .u8 (rd t.id 4)) := (blk_cell HGT5.out 9).trans rfl
          have HGTc10 : w5.cell? ⟨wr.heap.size, 10, none⟩ = some (.int .u8 (rd t.id 5)) := (blk_cell HGT5.out 10).trans rfl
          have HGTc11 : w5.cell? ⟨wr.heap.size, 11, none⟩ = some (.int .u8 (rd t.id 6)) := (blk_cell HGT5.out 11).trans rfl
          have HGTc12 : w5.cell? ⟨wr.heap.size, 12, none⟩ = some (.int .u8 (rd t.id 7)) := (blk_cell HGT5.out 12).trans rfl
          have HGTc13 : w5.cell? ⟨wr.heap.size, 13, none⟩ = some (.int .i16 t.p.1) := (blk_cell HGT5.out 13).trans rfl
          have HGTc14 : w5.cell? ⟨wr.heap.size, 14, none⟩ = some (.int .i16 t.p.2) := (blk_cell HGT5.out 14).trans rfl
          have HGTc15 : w5.cell? ⟨wr.heap.size, 15, none⟩ = some (.slice A' t.t.length c') := (blk_cell HGT5.out 15).trans rfl
          go_wp2_with fail
          refine (form_all t HTG.out.1 A' c' _ (Kd.C_below HC0.out HB5.out) (by have := HTG.out.2; omega)).mono ?_
          rintro e w6 ⟨vf, rfl, hrf, hb⟩
          clear HGTc0 HGTc1 HGTc2 HGTc3 HGTc4 HGTc5 HGTc6 HGTc7 HGTc8 HGTc9 HGTc10 HGTc11 HGTc12 HGTc13 HGTc14 HGTc15
          obtain ⟨Af, cf, ef, hlf, _⟩ := hrf.len
          subst ef
          have HLT6 : Aside0 (∀ k, fp w1.heap.size vw1 k → k < w5.heap.size) := ⟨fun k hk => (HWS5.out.w1.lt k hk).2⟩
          have HPL := Aside0.mk (put_lew t HTG.out.1 HTG.out.2)
          obtain ⟨ln, hln⟩ : ∃ ln, ln = l1 ++ (putB t).1 := ⟨_, rfl⟩
          have HLN := Aside0.mk hln
          clear hln
          have HRF6 : Aside0 (Row w6 w5.heap.size (.slice Af (putB t).1.length cf) (putB t).1) := ⟨hrf⟩
          clear hrf
          have HB6 := Aside0.mk (below_step HB5.out hb)
          have HWS6 := Aside0.mk (HWS5.out.below hb)
          have HGW6 := Aside0.mk ((hb.block _ (blk_lt HGW5.out)).trans HGW5.out)
          have HGQ6 := Aside0.mk ((hb.block _ (blk_lt HGQ5.out)).trans HGQ5.out)
          have HG36 := Aside0.mk ((hb.block _ (blk_lt HG35.out)).trans HG35.out)
          have HGT6 := Aside0.mk ((hb.block _ (blk_lt HGT5.out)).trans HGT5.out)
          clear HB5 HWS5 HGW5 HGQ5 HG35 HGT5 hb
          go_wp2_with fail
          have hbd : Below w6.heap.size w6 w6.drew := below_drew1 (Below.refl _ _)
          have HB7 := Aside0.mk (below_step HB6.out hbd)
          have HWS7 := Aside0.mk (HWS6.out.below hbd)
          have HGW7 := Aside0.mk ((hbd.block _ (blk_lt HGW6.out)).trans HGW6.out)
          have HGQ7 := Aside0.mk ((hbd.block _ (blk_lt HGQ6.out)).trans HGQ6.out)
          have HG37 := Aside0.mk ((hbd.block _ (blk_lt HG36.out)).trans HG36.out)
          have HGT7 := Aside0.mk ((hbd.block _ (blk_lt HGT6.out)).trans HGT6.out)
          have HRF7 := Aside0.mk (HRF6.out.below hbd)
          clear HB6 HWS6 HGW6 HGQ6 HG36 HGT6 HRF6 hbd
          refine start_ (n := 8) (S := fun w' => w'.cell? ⟨w2.heap.size + 1, 0, none⟩ = some (.pointer (some ⟨w.heap.size, 0, none⟩)) ∧ w'.cell? ⟨w2.heap.size + 1, 1, none⟩ = some (.pointer (some ⟨w1.heap.size, 0, none⟩)) ∧ w'.cell? ⟨w2.heap.size + 1, 2, none⟩ = some (.pointer none) ∧ w'.cell? ⟨w2.heap.size + 1, 3, none⟩ = some (.pointer (some ⟨w2.heap.size, 0, none⟩)) ∧ w'.cell? ⟨wr.heap.size, 0, none⟩ = some (.int .i64 t.1) ∧ w'.cell? ⟨wr.heap.size, 1, none⟩ = some (.int .i64 t.kind) ∧ w'.cell? ⟨wr.heap.size, 2, none⟩ = some (.int .u64 t.n) ∧ w'.cell? ⟨wr.heap.size, 3, none⟩ = some (.int .i64 t.i) ∧ w'.cell? ⟨wr.heap.size, 4, none⟩ = some (.int .i64 t.w) ∧ w'.cell? ⟨wr.heap.size, 5, none⟩ = some (.int .u8 (rd t.id 0)) ∧ w'.cell? ⟨wr.heap.size, 6, none⟩ = some (.int .u8 (rd t.id 1)) ∧ w'.cell? ⟨wr.heap.size, 7, none⟩ = some (.int .u8 (rd t.id 2)) ∧ w'.cell? ⟨wr.heap.size, 8, none⟩ = some (.int .u8 (rd t.id 3)) ∧ w'.cell? ⟨wr.heap.size, 9, none⟩ = some (.int .u8 (rd t.id 4)) ∧ w'.cell? ⟨wr.heap.size, 10, none⟩ = some (.int .u8 (rd t.id 5)) ∧ w'.cell? ⟨wr.heap.size, 11, none⟩ = some (.int .u8 (rd t.id 6)) ∧ w'.cell? ⟨wr.heap.size, 12, none⟩ = some (.int .u8 (rd t.id 7)) ∧ w'.cell? ⟨wr.heap.size, 13, none⟩ = some (.int .i16 t.p.1) ∧ w'.cell? ⟨wr.heap.size, 14, none⟩ = some (.int .i16 t.p.2) ∧ w'.cell? ⟨wr.heap.size, 15, none⟩ = some (.slice A' t.t.length c')) (ds := []) #[false, false, false, false, false, false, false, false] (by kernel_rfl) rfl rfl ⟨(blk_cell HGW7.out 0).trans rfl, (blk_cell HGW7.out 1).trans rfl, (blk_cell HGW7.out 2).trans rfl, (blk_cell HGW7.out 3).trans rfl, (blk_cell HGT7.out 0).trans rfl, (blk_cell HGT7.out 1).trans rfl, (blk_cell HGT7.out 2).trans rfl, (blk_cell HGT7.out 3).trans rfl, (blk_cell HGT7.out 4).trans rfl, (blk_cell HGT7.out 5).trans rfl, (blk_cell HGT7.out 6).trans rfl, (blk_cell HGT7.out 7).trans rfl, (blk_cell HGT7.out 8).trans rfl, (blk_cell HGT7.out 9).trans rfl, (blk_cell HGT7.out 10).trans rfl, (blk_cell HGT7.out 11).trans rfl, (blk_cell HGT7.out 12).trans rfl, (blk_cell HGT7.out 13).trans rfl, (blk_cell HGT7.out 14).trans rfl, (blk_cell HGT7.out 15).trans rfl⟩ (fun hHeld => ?_)
          refine with_tabW writes_tab16 writes_bits16 (fun HT_ HW_ => ?_)
          generalize w6.drew = w7 at HB7 HWS7 HGW7 HGQ7 HG37 HGT7 HRF7 hHeld ⊢
          refine pure_ (i := 0) (N := some 51) (v := ?_) (a' := ?_) #[true, false, false, false, false, false, false, false] rfl rfl (any_of HT_.out (by kernel_rfl)) (fun _ _ _ h => h) (Or.inl ⟨by rfl, ?_⟩) ?_ ?_
          rotate_left
          · intro w'
            go_simp
            with_reducible rfl
          rotate_left
          · simp only [Act.put, List.setIfInBounds_toArray, List.set_cons_zero, List.set_cons_succ, i64_w, i32_w]
            rfl
          refine pure_ (i := 1) (N := some 52) (v := ?_) (a' := ?_) #[true, true, false, false, false, false, false, false] rfl rfl (any_of HT_.out (by kernel_rfl)) (fun _ _ _ h => h) (Or.inl ⟨by rfl, ?_⟩) ?_ ?_
          rotate_left
          · intro w'
            go_simp
            with_reducible rfl
          rotate_left
          · simp only [Act.put, List.setIfInBounds_toArray, List.set_cons_zero, List.set_cons_succ, i64_w, i32_w]
            rfl
          refine pure_ (i := 2) (N := some 53) (v := ?_) (a' := ?_) #[true, true, true, false, false, false, false, false] rfl rfl (any_of HT_.out (by kernel_rfl)) (fun _ _ _ h => h) (Or.inl ⟨by rfl, ?_⟩) ?_ ?_
          rotate_left
          · intro w'
            go_simp
            with_reducible rfl
          rotate_left
          · simp only [Act.put, List.setIfInBounds_toArray, List.set_cons_zero, List.set_cons_succ, i64_w, i32_w]
            rfl
          refine take_ (i := 3) (N := some 54) (v := ?_) (a' := ?_) #[true, true, true, true, false, false, false, false] rfl rfl (take_ofW HT_.out HW_.out (by kernel_rfl)) (fun _ _ _ h => h) (Or.inl ⟨by rfl, ?_⟩) hHeld ?_ ?_
          rotate_left
          · rintro w' ⟨s0, s1, s2, s3, s4, s5, s6, s7, s8, s9, s10, s11, s12, s13, s14, s15, s16, s17, s18, s19⟩
            go_simp
            with_reducible rfl
          rotate_left
          · simp only [Act.put, List.setIfInBounds_toArray, List.set_cons_zero, List.set_cons_succ, i64_w, i32_w]
            rfl
          refine take_ (i := 4) (N := some 55) (v := ?_) (a' := ?_) #[true, true, true, true, true, false, false, false] rfl rfl (take_ofW HT_.out HW_.out (by kernel_rfl)) (fun _ _ _ h => h) (Or.inl ⟨by rfl, ?_⟩) hHeld ?_ ?_
          rotate_left
          · rintro w' ⟨s0, s1, s2, s3, s4, s5, s6, s7, s8, s9, s10, s11, s12, s13, s14, s15, s16, s17, s18, s19⟩
            go_simp
            with_reducible rfl
          rotate_left
          · simp only [Act.put, List.setIfInBounds_toArray, List.set_cons_zero, List.set_cons_succ, i64_w, i32_w]
            rfl
          refine pure_ (i := 6) (N := some 57) (v := ?_) (a' := ?_) #[true, true, true, true, true, false, true, false] rfl rfl (any_of HT_.out (by kernel_rfl)) (fun _ _ _ h => h) (Or.inl ⟨by rfl, ?_⟩) ?_ ?_
          rotate_left
          · intro w'
            go_simp
            with_reducible rfl
          rotate_left
          · simp only [Act.put, List.setIfInBounds_toArray, List.set_cons_zero, List.set_cons_succ, i64_w, i32_w]
            rfl
          refine one_ (i := 5) (N := some 56) #[true, true, true, true, true, true, true, false] rfl rfl (one_of HT_.out (by kernel_rfl)) (by decide) (fun K hK => ?_)
          refine goes_ Try.func21 (by kernel_rfl) rfl #[.pointer (some ⟨w1.heap.size, 0, none⟩), .agg #[.int .i64 t.1, .int .i64 t.kind, .int .u64 t.n, .int .i64 t.i, .int .i64 t.w, .int .u8 (rd t.id 0), .int .u8 (rd t.id 1), .int .u8 (rd t.id 2), .int .u8 (rd t.id 3), .int .u8 (rd t.id 4), .int .u8 (rd t.id 5), .int .u8 (rd t.id 6), .int .u8 (rd t.id 7), .int .i16 t.p.1, .int .i16 t.p.2, .slice A' t.t.length c']] (by rfl) rfl rfl (by (try simp only [List.map_toArray, List.map_cons, List.map_nil]); first | done | rfl) ?_
          refine (put_all w.heap.size w1.heap.size vw1 l1 w7 HWS7.out.w1 HB7.out.size t HTG.out.1 A' c' (Kd.C_below HC0.out HB7.out) (by have h := bndw_top HBN.out.2 HJT.out; have := HTG.out.2; omega)).mono ?_
          rintro e w8 ⟨rfl, hwr⟩
          rw [← HLN.out] at hwr
          refine ⟨_, rfl, ?_⟩
          obtain ⟨vx, hws_, hc⟩ := HWS7.out.swap.wrote hwr
          have hws := hws_.swap
          clear hws_
          have HB8 : Aside0 (Below w.heap.size w w8) := ⟨HB7.out.trans (hc.below HB7.out.size (fun i hi => (HWS7.out.w1.lt i hi).1))⟩
          have HWS8 := Aside0.mk hws
          have HGW8 := Aside0.mk (hc.heap HGW7.out (far_w HWS7.out.w1 HGW7.out (by decide) N_W1.out))
          have HGQ8 := Aside0.mk (hc.heap HGQ7.out (far_w HWS7.out.w1 HGQ7.out (by decide) N_Q1.out))
          have HG38 := Aside0.mk (hc.heap HG37.out (far_w HWS7.out.w1 HG37.out (by decide) N_31.out))
          have HGT8 := Aside0.mk (hc.heap HGT7.out (far_w HWS7.out.w1 HGT7.out (by decide) N_T1.out))
          have HRF8 := Aside0.mk (HRF7.out.move (fun i hi => hc.block i (own_lt HRF7.out i hi) (fun e => by have h1 := own_base HRF7.out i hi; have h2 := HLT6.out i e; omega)))
          clear hws hc hwr HLT6 HB7 HWS7 HGW7 HGQ7 HG37 HGT7 HRF7
          refine hK.out _ _ ⟨(blk_cell HGW8.out 0).trans rfl, (blk_cell HGW8.out 1).trans rfl, (blk_cell HGW8.out 2).trans rfl, (blk_cell HGW8.out 3).trans rfl, (blk_cell HGT8.out 0).trans rfl, (blk_cell HGT8.out 1).trans rfl, (blk_cell HGT8.out 2).trans rfl, (blk_cell HGT8.out 3).trans rfl, (blk_cell HGT8.out 4).trans rfl, (blk_cell HGT8.out 5).trans rfl, (blk_cell HGT8.out 6).trans rfl, (blk_cell HGT8.out 7).trans rfl, (blk_cell HGT8.out 8).trans rfl, (blk_cell HGT8.out 9).trans rfl, (blk_cell HGT8.out 10).trans rfl, (blk_cell HGT8.out 11).trans rfl, (blk_cell HGT8.out 12).trans rfl, (blk_cell HGT8.out 13).trans rfl, (blk_cell HGT8.out 14).trans rfl, (blk_cell HGT8.out 15).trans rfl⟩ (fun hHeld => ?_)
          clear hK K
          refine norm_ (a' := ?_) ?_ ?_
          rotate_left
          · show Act.put _ (some 56) _ = _
            simp only [Act.put, List.setIfInBounds_toArray, List.set_cons_zero, List.set_cons_succ, i64_w, i32_w]
            rfl
          refine pure_ (i := 7) (N := some 58) (v := ?_) (a' := ?_) #[true, true, true, true, true, true, true, true] rfl rfl (any_of HT_.out (by kernel_rfl)) (fun _ _ _ h => h) (Or.inl ⟨by rfl, ?_⟩) ?_ ?_
          rotate_left
          · intro w'
            go_simp
            with_reducible rfl
          rotate_left
          · simp only [Act.put, List.setIfInBounds_toArray, List.set_cons_zero, List.set_cons_succ, i64_w, i32_w]
            rfl
          refine done_ (done_of HT_.out (by kernel_rfl)) ?_
          clear hHeld HT_ HW_
          have HGQc1 : w8.cell? ⟨w2.heap.size + 1 + 1, 1, none⟩ = some (v1) := (blk_cell HGQ8.out 1).trans rfl
          obtain ⟨Af_, cf_, ef_, _, hCf⟩ := HRF8.out.len
          cases ef_
          go_wp2_with ((with_reducible refine gate_builtin (b := .append) (xs := #[.tmp 62, .tmp 63]) rfl ?_); at_builtin; refine app_row (w0 := w) rfl (.tmp 62) (.tmp 63) rfl (v1) (l1) (putB t).1 Af cf rfl rfl HWS8.out.r1 hCf HB8.out (by have h := bndw_top HBN.out.2 HJT.out; have := HPL.out; omega) ?_; intro vy w9 h1 h2 h3 h4; rw [← HLN.out] at h1; have HB9 := Aside0.mk h4; have HWS9 := Aside0.mk ((HWS8.out.swap.grow h1 h2 h3).swap); have HGW9 := Aside0.mk (blk_grown HGW8.out h2 (fun e => row_ne HWS8.out.r1 HGW8.out (by decide) e.symm)); have HGQ9 := Aside0.mk (blk_grown HGQ8.out h2 (fun e => row_ne HWS8.out.r1 HGQ8.out (by decide) e.symm)); have HG39 := Aside0.mk (blk_grown HG38.out h2 (fun e => row_ne HWS8.out.r1 HG38.out (by decide) e.symm)); have HGT9 := Aside0.mk (blk_grown HGT8.out h2 (fun e => row_ne HWS8.out.r1 HGT8.out (by decide) e.symm)); clear h1 h2 h3 h4 hCf HGQc1 HRF8 HB8 HWS8 HGW8 HGQ8 HG38 HGT8; obtain ⟨Ah1, ch1, ey_, hy_, _⟩ := HWS9.out.r1.len; subst ey_; have HLH1 := Aside0.mk hy_; clear hy_; have qd : w9.cell? ⟨w2.heap.size + 1 + 1, 1, none⟩ = some (v1) := (blk_cell HGQ9.out 1).trans rfl; have qf := blk_frozen HGQ9.out 1)
          clear qd qf
          have hch : Chg (· = w2.heap.size + 1 + 1) w9 (w9.setCell ⟨w2.heap.size + 1 + 1, 1, none⟩ (.slice Ah1 (ln).length ch1)) := Chg.setCell (F := (· = w2.heap.size + 1 + 1)) (Chg.refl _ _) (p := ⟨w2.heap.size + 1 + 1, 1, none⟩) (Or.inl rfl) _
          have HB10 : Aside0 (Below w.heap.size w (w9.setCell ⟨w2.heap.size + 1 + 1, 1, none⟩ (.slice Ah1 (ln).length ch1))) := ⟨HB9.out.trans (hch.below HB9.out.size (fun i hi => by have e : i = w2.heap.size + 1 + 1 := hi; rw [e]; exact N_QB.out))⟩
          have HWS10 := Aside0.mk (HWS9.out.cell hch HGQ9.out (by decide) N_Q0.out N_Q1.out)
          have HGW10 := Aside0.mk (hch.heap HGW9.out N_WQ.out)
          have HGQ10 := Aside0.mk (blk_put HGQ9.out 1 (.slice Ah1 (ln).length ch1) rfl)
          have HG310 := Aside0.mk (hch.heap HG39.out N_3Q.out)
          have HGT10 := Aside0.mk (hch.heap HGT9.out N_TQ.out)
          clear hch HB9 HWS9 HGW9 HGQ9 HG39 HGT9
          generalize (w9.setCell ⟨w2.heap.size + 1 + 1, 1, none⟩ (.slice Ah1 (ln).length ch1)) = w10 at HB10 HWS10 HGW10 HGQ10 HG310 HGT10 ⊢
          obtain ⟨jt, hjt⟩ : ∃ jt, jt = j + 1 := ⟨_, rfl⟩
          have HBH : Aside0 (BndW (l0).length jt ∧ BndW (ln).length jt) := ⟨by rw [hjt, HLN.out, List.length_append]; exact ⟨bndw_next HBN.out.1, bndw_step HBN.out.2 HPL.out⟩⟩
          have HJH : Aside0 (jt ≤ 1048576) := ⟨by have := HJ.out; have := HLT.out; omega⟩
          have HJTE := Aside0.mk hjt
          clear hjt
          have hbd : Below w10.heap.size w10 w10.drew := below_drew1 (Below.refl _ _)
          have HB11 := Aside0.mk (below_step HB10.out hbd)
          have HWS11 := Aside0.mk (HWS10.out.below hbd)
          have HGW11 := Aside0.mk ((hbd.block _ (blk_lt HGW10.out)).trans HGW10.out)
          have HGQ11 := Aside0.mk ((hbd.block _ (blk_lt HGQ10.out)).trans HGQ10.out)
          have HG311 := Aside0.mk ((hbd.block _ (blk_lt HG310.out)).trans HG310.out)
          have HGT11 := Aside0.mk ((hbd.block _ (blk_lt HGT10.out)).trans HGT10.out)
          clear HB10 HWS10 HGW10 HGQ10 HG310 HGT10 hbd
          refine start_ (n := 9) (S := fun w' => w'.cell? ⟨w2.heap.size + 1, 0, none⟩ = some (.pointer (some ⟨w.heap.size, 0, none⟩)) ∧ w'.cell? ⟨w2.heap.size + 1, 1, none⟩ = some (.pointer (some ⟨w1.heap.size, 0, none⟩)) ∧ w'.cell? ⟨w2.heap.size + 1, 2, none⟩ = some (.pointer none) ∧ w'.cell? ⟨w2.heap.size + 1, 3, none⟩ = some (.pointer (some ⟨w2.heap.size, 0, none⟩)) ∧ w'.cell? ⟨w2.heap.size + 1 + 1, 0, none⟩ = some (v0) ∧ w'.cell? ⟨w2.heap.size + 1 + 1, 1, none⟩ = some (.slice Ah1 (ln).length ch1) ∧ w'.cell? ⟨w2.heap.size + 1 + 1, 2, none⟩ = some (.slice none 0 0) ∧ w'.cell? ⟨w2.heap.size + 1 + 1, 3, none⟩ = some (.slice none 0 0)) (ds := []) #[false, false, false, false, false, false, false, false, false] (by kernel_rfl) rfl rfl ⟨(blk_cell HGW11.out 0).trans rfl, (blk_cell HGW11.out 1).trans rfl, (blk_cell HGW11.out 2).trans rfl, (blk_cell HGW11.out 3).trans rfl, (blk_cell HGQ11.out 0).trans rfl, (blk_cell HGQ11.out 1).trans rfl, (blk_cell HGQ11.out 2).trans rfl, (blk_cell HGQ11.out 3).trans rfl⟩ (fun hHeld => ?_)
          refine with_tabW writes_tab19 writes_bits19 (fun HT_ HW_ => ?_)
          generalize w10.drew = w11 at HB11 HWS11 HGW11 HGQ11 HG311 HGT11 hHeld ⊢
          refine pure_ (i := 0) (N := some 66) (v := ?_) (a' := ?_) #[true, false, false, false, false, false, false, false, false] rfl rfl (any_of HT_.out (by kernel_rfl)) (fun _ _ _ h => h) (Or.inl ⟨by rfl, ?_⟩) ?_ ?_
          rotate_left
          · intro w'
            go_simp
            with_reducible rfl
          rotate_left
          · simp only [Act.put, List.setIfInBounds_toArray, List.set_cons_zero, List.set_cons_succ, i64_w, i32_w]
            rfl
          refine pure_ (i := 1) (N := some 67) (v := ?_) (a' := ?_) #[true, true, false, false, false, false, false, false, false] rfl rfl (any_of HT_.out (by kernel_rfl)) (fun _ _ _ h => h) (Or.inl ⟨by rfl, ?_⟩) ?_ ?_
          rotate_left
          · intro w'
            go_simp
            with_reducible rfl
          rotate_left
          · simp only [Act.put, List.setIfInBounds_toArray, List.set_cons_zero, List.set_cons_succ, i64_w, i32_w]
            rfl
          refine pure_ (i := 2) (N := some 68) (v := ?_) (a' := ?_) #[true, true, true, false, false, false, false, false, false] rfl rfl (any_of HT_.out (by kernel_rfl)) (fun _ _ _ h => h) (Or.inl ⟨by rfl, ?_⟩) ?_ ?_
          rotate_left
          · intro w'
            go_simp
            with_reducible rfl
          rotate_left
          · simp only [Act.put, List.setIfInBounds_toArray, List.set_cons_zero, List.set_cons_succ, i64_w, i32_w]
            rfl
          refine pure_ (i := 4) (N := some 70) (v := ?_) (a' := ?_) #[true, true, true, false, true, false, false, false, false] rfl rfl (any_of HT_.out (by kernel_rfl)) (fun _ _ _ h => h) (Or.inl ⟨by rfl, ?_⟩) ?_ ?_
          rotate_left
          · intro w'
            go_simp
            with_reducible rfl
          rotate_left
          · simp only [Act.put, List.setIfInBounds_toArray, List.set_cons_zero, List.set_cons_succ, i64_w, i32_w]
            rfl
          refine pure_ (i := 5) (N := some 71) (v := ?_) (a' := ?_) #[true, true, true, false, true, true, false, false, false] rfl rfl (any_of HT_.out (by kernel_rfl)) (fun _ _ _ h => h) (Or.inl ⟨by rfl, ?_⟩) ?_ ?_
          rotate_left
          · intro w'
            go_simp
            with_reducible rfl
          rotate_left
          · simp only [Act.put, List.setIfInBounds_toArray, List.set_cons_zero, List.set_cons_succ, i64_w, i32_w]
            rfl
          refine take_ (i := 3) (N := some 69) (v := ?_) (a' := ?_) #[true, true, true, true, true, true, false, false, false] rfl rfl (take_ofW HT_.out HW_.out (by kernel_rfl)) (fun _ _ _ h => h) (Or.inl ⟨by rfl, ?_⟩) hHeld ?_ ?_
          rotate_left
          · rintro w' ⟨s0, s1, s2, s3, s4, s5, s6, s7⟩
            go_simp
            with_reducible rfl
          rotate_left
          · simp only [Act.put, List.setIfInBounds_toArray, List.set_cons_zero, List.set_cons_succ, i64_w, i32_w]
            rfl
          refine take_ (i := 6) (N := some 72) (v := ?_) (a' := ?_) #[true, true, true, true, true, true, true, false, false] rfl rfl (take_ofW HT_.out HW_.out (by kernel_rfl)) (fun _ _ _ h => h) (Or.inl ⟨by rfl, ?_⟩) hHeld ?_ ?_
          rotate_left
          · rintro w' ⟨s0, s1, s2, s3, s4, s5, s6, s7⟩
            go_simp
            with_reducible rfl
          rotate_left
          · simp only [Act.put, List.setIfInBounds_toArray, List.set_cons_zero, List.set_cons_succ, i64_w, i32_w]
            rfl
          refine one_ (i := 7) (N := some 73) #[true, true, true, true, true, true, true, true, false] rfl rfl (one_of HT_.out (by kernel_rfl)) (by decide) (fun K hK => ?_)
          refine goes_ Try.func22 (by kernel_rfl) rfl #[.pointer (some ⟨w1.heap.size, 0, none⟩), .slice Ah1 (ln).length ch1] (by rfl) rfl rfl (by (try simp only [List.map_toArray, List.map_cons, List.map_nil]); first | done | rfl) ?_
          refine (hand_calls (.pointer (some ⟨w1.heap.size, 0, none⟩)) (ln) w11 Ah1 ch1 (by obtain ⟨A_, c_, e_, _, hC_⟩ := HWS11.out.r1.len; cases e_; exact hC_) HLH1.out (by have h := bndw_top HBH.out.2 (j := jt) HJH.out; omega) (ask_live HWS11.out.w1 (by have h := bndw_top HBH.out.2 (j := jt) HJH.out; omega))).mono ?_
          rintro e w12 ⟨rfl, hb⟩
          refine ⟨_, rfl, ?_⟩
          have HB12 := Aside0.mk (below_step HB11.out hb)
          have HWS12 := Aside0.mk (HWS11.out.below hb)
          have HGW12 := Aside0.mk ((hb.block _ (blk_lt HGW11.out)).trans HGW11.out)
          have HGQ12 := Aside0.mk ((hb.block _ (blk_lt HGQ11.out)).trans HGQ11.out)
          have HG312 := Aside0.mk ((hb.block _ (blk_lt HG311.out)).trans HG311.out)
          have HGT12 := Aside0.mk ((hb.block _ (blk_lt HGT11.out)).trans HGT11.out)
          clear HB11 HWS11 HGW11 HGQ11 HG311 HGT11 hb
          refine hK.out _ _ ⟨(blk_cell HGW12.out 0).trans rfl, (blk_cell HGW12.out 1).trans rfl, (blk_cell HGW12.out 2).trans rfl, (blk_cell HGW12.out 3).trans rfl, (blk_cell HGQ12.out 0).trans rfl, (blk_cell HGQ12.out 1).trans rfl, (blk_cell HGQ12.out 2).trans rfl, (blk_cell HGQ12.out 3).trans rfl⟩ (fun hHeld => ?_)
          clear hK K
          refine norm_ (a' := ?_) ?_ ?_
          rotate_left
          · show Act.put _ (some 73) _ = _
            simp only [Act.put, List.setIfInBounds_toArray, List.set_cons_zero, List.set_cons_succ, i64_w, i32_w]
            rfl
          refine pure_ (i := 8) (N := some 74) (v := ?_) (a' := ?_) #[true, true, true, true, true, true, true, true, true] rfl rfl (any_of HT_.out (by kernel_rfl)) (fun _ _ _ h => h) (Or.inl ⟨by rfl, ?_⟩) ?_ ?_
          rotate_left
          · intro w'
            go_simp
            with_reducible rfl
          rotate_left
          · simp only [Act.put, List.setIfInBounds_toArray, List.set_cons_zero, List.set_cons_succ, i64_w, i32_w]
            rfl
          refine done_ (done_of HT_.out (by kernel_rfl)) ?_
          clear hHeld HT_ HW_
          go_wp2
          go_roundg kq
          case measure => omega
          case rel => exact ⟨j + 1, _, _, _, _, _, _, by first | rfl | simp, ⟨by have := HJ.out; omega⟩, ⟨by rw [← HJTE.out]; exact HBH.out⟩, HB12, HWS12, HGW12, HGQ12, HG312⟩
      · as_aux_lemma =>
          have HGTc0 : w5.cell? ⟨wr.heap.size, 0, none⟩ = some (.int .i64 t.1) := (blk_cell HGT5.out 0).trans rfl
          have HGTc1 : w5.cell? ⟨wr.heap.size, 1, none⟩ = some (.int .i64 t.kind) := (blk_cell HGT5.out 1).trans rfl
          have HGTc2 : w5.cell? ⟨wr.heap.size, 2, none⟩ = some (.int .u64 t.n) := (blk_cell HGT5.out 2).trans rfl
          have HGTc3 : w5.cell? ⟨wr.heap.size, 3, none⟩ = some (.int .i64 t.i) := (blk_cell HGT5.out 3).trans rfl
          have HGTc4 : w5.cell? ⟨wr.heap.size, 4, none⟩ = some (.int .i64 t.w) := (blk_cell HGT5.out 4).trans rfl
          have HGTc5 : w5.cell? ⟨wr.heap.size, 5, none⟩ = some (.int .u8 (rd t.id 0)) := (blk_cell HGT5.out 5).trans rfl
          have HGTc6 : w5.cell? ⟨wr.heap.size, 6, none⟩ = some (.int .u8 (rd t.id 1)) := (blk_cell HGT5.out 6).trans rfl
          have HGTc7 : w5.cell? ⟨wr.heap.size, 7, none⟩ = some (.int .u8 (rd t.id 2)) := (blk_cell HGT5.out 7).trans rfl
          have HGTc8 : w5.cell? ⟨wr.heap.size, 8, none⟩ = some (.int .u8 (rd t.id 3)) := (blk_cell HGT5.out 8).trans rfl
          have HGTc9 : w5.cell? ⟨wr.heap.size, 9, none⟩ = some (.int .u8 (rd t.id 4)) := (blk_cell HGT5.out 9).trans rfl
          have HGTc10 : w5.cell? ⟨wr.heap.size, 10, none⟩ = some (.int .u8 (rd t.id 5)) := (blk_cell HGT5.out 10).trans rfl
          have HGTc11 : w5.cell? ⟨wr.heap.size, 11, none⟩ = some (.int .u8 (rd t.id 6)) := (blk_cell HGT5.out 11).trans rfl
          have HGTc12 : w5.cell? ⟨wr.heap.size, 12, none⟩ = some (.int .u8 (rd t.id 7)) := (blk_cell HGT5.out 12).trans rfl
          have HGTc13 : w5.cell? ⟨wr.heap.size, 13, none⟩ = some (.int .i16 t.p.1) := (blk_cell HGT5.out 13).trans rfl
          have HGTc14 : w5.cell? ⟨wr.heap.size, 14, none⟩ = some (.int .i16 t.p.2) := (blk_cell HGT5.out 14).trans rfl
          have HGTc15 : w5.cell? ⟨wr.heap.size, 15, none⟩ = some (.slice A' t.t.length c') := (blk_cell HGT5.out 15).trans rfl
          go_wp2_with fail
          refine (form_all t HTG.out.1 A' c' _ (Kd.C_below HC0.out HB5.out) (by have := HTG.out.2; omega)).mono ?_
          rintro e w6 ⟨vf, rfl, hrf, hb⟩
          clear HGTc0 HGTc1 HGTc2 HGTc3 HGTc4 HGTc5 HGTc6 HGTc7 HGTc8 HGTc9 HGTc10 HGTc11 HGTc12 HGTc13 HGTc14 HGTc15
          obtain ⟨Af, cf, ef, hlf, _⟩ := hrf.len
          subst ef
          clear hrf hlf
          have HB6 := Aside0.mk (below_step HB5.out hb)
          have HWS6 := Aside0.mk (HWS5.out.below hb)
          have HGW6 := Aside0.mk ((hb.block _ (blk_lt HGW5.out)).trans HGW5.out)
          have HGQ6 := Aside0.mk ((hb.block _ (blk_lt HGQ5.out)).trans HGQ5.out)
          have HG36 := Aside0.mk ((hb.block _ (blk_lt HG35.out)).trans HG35.out)
          have HGT6 := Aside0.mk ((hb.block _ (blk_lt HGT5.out)).trans HGT5.out)
          clear HB5 HWS5 HGW5 HGQ5 HG35 HGT5 hb
          have HGTc1 : w6.cell? ⟨wr.heap.size, 1, none⟩ = some (.int .i64 t.kind) := (blk_cell HGT6.out 1).trans rfl
          go_wp2_with fail
          refine (round7_calls t.kind _).mono ?_
          rintro e w6_ ⟨rfl, hw_⟩
          replace hw_ := hw_.symm
          subst hw_
          clear HGTc1
          by_cases hkd : kindOf t.kind = 1
          · have HDE : Aside0 (deadE t = 2) := ⟨if_pos hkd⟩
            have cq : (kindOf t.kind == 1) = true := beq_iff_eq.mpr hkd
            clear hkd
            go_wp2_with fail
            clear cq
            have hbd : Below w6.heap.size w6 w6.drew := below_drew1 (Below.refl _ _)
            have HB7 := Aside0.mk (below_step HB6.out hbd)
            have HWS7 := Aside0.mk (HWS6.out.below hbd)
            have HGW7 := Aside0.mk ((hbd.block _ (blk_lt HGW6.out)).trans HGW6.out)
            have HGQ7 := Aside0.mk ((hbd.block _ (blk_lt HGQ6.out)).trans HGQ6.out)
            have HG37 := Aside0.mk ((hbd.block _ (blk_lt HG36.out)).trans HG36.out)
            have HGT7 := Aside0.mk ((hbd.block _ (blk_lt HGT6.out)).trans HGT6.out)
            clear HB6 HWS6 HGW6 HGQ6 HG36 HGT6 hbd
            refine start_ (n := 8) (S := fun w' => w'.cell? ⟨w2.heap.size + 1, 0, none⟩ = some (.pointer (some ⟨w.heap.size, 0, none⟩)) ∧ w'.cell? ⟨w2.heap.size + 1, 1, none⟩ = some (.pointer (some ⟨w1.heap.size, 0, none⟩)) ∧ w'.cell? ⟨w2.heap.size + 1, 2, none⟩ = some (.pointer none) ∧ w'.cell? ⟨w2.heap.size + 1, 3, none⟩ = some (.pointer (some ⟨w2.heap.size, 0, none⟩)) ∧ w'.cell? ⟨wr.heap.size, 0, none⟩ = some (.int .i64 t.1) ∧ w'.cell? ⟨wr.heap.size, 1, none⟩ = some (.int .i64 t.kind) ∧ w'.cell? ⟨wr.heap.size, 2, none⟩ = some (.int .u64 t.n) ∧ w'.cell? ⟨wr.heap.size, 3, none⟩ = some (.int .i64 t.i) ∧ w'.cell? ⟨wr.heap.size, 4, none⟩ = some (.int .i64 t.w) ∧ w'.cell? ⟨wr.heap.size, 5, none⟩ = some (.int .u8 (rd t.id 0)) ∧ w'.cell? ⟨wr.heap.size, 6, none⟩ = some (.int .u8 (rd t.id 1)) ∧ w'.cell? ⟨wr.heap.size, 7, none⟩ = some (.int .u8 (rd t.id 2)) ∧ w'.cell? ⟨wr.heap.size, 8, none⟩ = some (.int .u8 (rd t.id 3)) ∧ w'.cell? ⟨wr.heap.size, 9, none⟩ = some (.int .u8 (rd t.id 4)) ∧ w'.cell? ⟨wr.heap.size, 10, none⟩ = some (.int .u8 (rd t.id 5)) ∧ w'.cell? ⟨wr.heap.size, 11, none⟩ = some (.int .u8 (rd t.id 6)) ∧ w'.cell? ⟨wr.heap.size, 12, none⟩ = some (.int .u8 (rd t.id 7)) ∧ w'.cell? ⟨wr.heap.size, 13, none⟩ = some (.int .i16 t.p.1) ∧ w'.cell? ⟨wr.heap.size, 14, none⟩ = some (.int .i16 t.p.2) ∧ w'.cell? ⟨wr.heap.size, 15, none⟩ = some (.slice A' t.t.length c')) (ds := []) #[false, false, false, false, false, false, false, false] (by kernel_rfl) rfl rfl ⟨(blk_cell HGW7.out 0).trans rfl, (blk_cell HGW7.out 1).trans rfl, (blk_cell HGW7.out 2).trans rfl, (blk_cell HGW7.out 3).trans rfl, (blk_cell HGT7.out 0).trans rfl, (blk_cell HGT7.out 1).trans rfl, (blk_cell HGT7.out 2).trans rfl, (blk_cell HGT7.out 3).trans rfl, (blk_cell HGT7.out 4).trans rfl, (blk_cell HGT7.out 5).trans rfl, (blk_cell HGT7.out 6).trans rfl, (blk_cell HGT7.out 7).trans rfl, (blk_cell HGT7.out 8).trans rfl, (blk_cell HGT7.out 9).trans rfl, (blk_cell HGT7.out 10).trans rfl, (blk_cell HGT7.out 11).trans rfl, (blk_cell HGT7.out 12).trans rfl, (blk_cell HGT7.out 13).trans rfl, (blk_cell HGT7.out 14).trans rfl, (blk_cell HGT7.out 15).trans rfl⟩ (fun hHeld => ?_)
            refine with_tabW writes_tab16 writes_bits16 (fun HT_ HW_ => ?_)
            generalize w6.drew = w7 at HB7 HWS7 HGW7 HGQ7 HG37 HGT7 hHeld ⊢
            refine pure_ (i := 0) (N := some 51) (v := ?_) (a' := ?_) #[true, false, false, false, false, false, false, false] rfl rfl (any_of HT_.out (by kernel_rfl)) (fun _ _ _ h => h) (Or.inl ⟨by rfl, ?_⟩) ?_ ?_
            rotate_left
            · intro w'
              go_simp
              with_reducible rfl
            rotate_left
            · simp only [Act.put, List.setIfInBounds_toArray, List.set_cons_zero, List.set_cons_succ, i64_w, i32_w]
              rfl
            refine pure_ (i := 1) (N := some 52) (v := ?_) (a' := ?_) #[true, true, false, false, false, false, false, false] rfl rfl (any_of HT_.out (by kernel_rfl)) (fun _ _ _ h => h) (Or.inl ⟨by rfl, ?_⟩) ?_ ?_
            rotate_left
            · intro w'
              go_simp
              with_reducible rfl
            rotate_left
            · simp only [Act.put, List.setIfInBounds_toArray, List.set_cons_zero, List.set_cons_succ, i64_w, i32_w]
              rfl
            refine pure_ (i := 2) (N := some 53) (v := ?_) (a' := ?_) #[true, true, true, false, false, false, false, false] rfl rfl (any_of HT_.out (by kernel_rfl)) (fun _ _ _ h => h) (Or.inl ⟨by rfl, ?_⟩) ?_ ?_
            rotate_left
            · intro w'
              go_simp
              with_reducible rfl
            rotate_left
            · simp only [Act.put, List.setIfInBounds_toArray, List.set_cons_zero, List.set_cons_succ, i64_w, i32_w]
              rfl
            refine take_ (i := 3) (N := some 54) (v := ?_) (a' := ?_) #[true, true, true, true, false, false, false, false] rfl rfl (take_ofW HT_.out HW_.out (by kernel_rfl)) (fun _ _ _ h => h) (Or.inl ⟨by rfl, ?_⟩) hHeld ?_ ?_
            rotate_left
            · rintro w' ⟨s0, s1, s2, s3, s4, s5, s6, s7, s8, s9, s10, s11, s12, s13, s14, s15, s16, s17, s18, s19⟩
              go_simp
              with_reducible rfl
            rotate_left
            · simp only [Act.put, List.setIfInBounds_toArray, List.set_cons_zero, List.set_cons_succ, i64_w, i32_w]
              rfl
            refine take_ (i := 4) (N := some 55) (v := ?_) (a' := ?_) #[true, true, true, true, true, false, false, false] rfl rfl (take_ofW HT_.out HW_.out (by kernel_rfl)) (fun _ _ _ h => h) (Or.inl ⟨by rfl, ?_⟩) hHeld ?_ ?_
            rotate_left
            · rintro w' ⟨s0, s1, s2, s3, s4, s5, s6, s7, s8, s9, s10, s11, s12, s13, s14, s15, s16, s17, s18, s19⟩
              go_simp
              with_reducible rfl
            rotate_left
            · simp only [Act.put, List.setIfInBounds_toArray, List.set_cons_zero, List.set_cons_succ, i64_w, i32_w]
              rfl
            refine pure_ (i := 6) (N := some 57) (v := ?_) (a' := ?_) #[true, true, true, true, true, false, true, false] rfl rfl (any_of HT_.out (by kernel_rfl)) (fun _ _ _ h => h) (Or.inl ⟨by rfl, ?_⟩) ?_ ?_
            rotate_left
            · intro w'
              go_simp
              with_reducible rfl
            rotate_left
            · simp only [Act.put, List.setIfInBounds_toArray, List.set_cons_zero, List.set_cons_succ, i64_w, i32_w]
              rfl
            refine one_ (i := 5) (N := some 56) #[true, true, true, true, true, true, true, false] rfl rfl (one_of HT_.out (by kernel_rfl)) (by decide) (fun K hK => ?_)
            refine goes_ Try.func21 (by kernel_rfl) rfl #[.pointer none, .agg #[.int .i64 t.1, .int .i64 t.kind, .int .u64 t.n, .int .i64 t.i, .int .i64 t.w, .int .u8 (rd t.id 0), .int .u8 (rd t.id 1), .int .u8 (rd t.id 2), .int .u8 (rd t.id 3), .int .u8 (rd t.id 4), .int .u8 (rd t.id 5), .int .u8 (rd t.id 6), .int .u8 (rd t.id 7), .int .i16 t.p.1, .int .i16 t.p.2, .slice A' t.t.length c']] (by rfl) rfl rfl (by (try simp only [List.map_toArray, List.map_cons, List.map_nil]); first | done | rfl) ?_
            refine (putD_all (.pointer none) w7 (Or.inl rfl) t HTG.out.1 A' c' (Kd.C_below HC0.out HB7.out) (by have := HTG.out.2; omega)).mono ?_
            rw [HDE.out]
            rintro e w8 ⟨rfl, hb⟩
            refine ⟨_, rfl, ?_⟩
            have HB8 := Aside0.mk (below_step HB7.out hb)
            have HWS8 := Aside0.mk (HWS7.out.below hb)
            have HGW8 := Aside0.mk ((hb.block _ (blk_lt HGW7.out)).trans HGW7.out)
            have HGQ8 := Aside0.mk ((hb.block _ (blk_lt HGQ7.out)).trans HGQ7.out)
            have HG38 := Aside0.mk ((hb.block _ (blk_lt HG37.out)).trans HG37.out)
            have HGT8 := Aside0.mk ((hb.block _ (blk_lt HGT7.out)).trans HGT7.out)
            clear HB7 HWS7 HGW7 HGQ7 HG37 HGT7 hb
            refine hK.out _ _ ⟨(blk_cell HGW8.out 0).trans rfl, (blk_cell HGW8.out 1).trans rfl, (blk_cell HGW8.out 2).trans rfl, (blk_cell HGW8.out 3).trans rfl, (blk_cell HGT8.out 0).trans rfl, (blk_cell HGT8.out 1).trans rfl, (blk_cell HGT8.out 2).trans rfl, (blk_cell HGT8.out 3).trans rfl, (blk_cell HGT8.out 4).trans rfl, (blk_cell HGT8.out 5).trans rfl, (blk_cell HGT8.out 6).trans rfl, (blk_cell HGT8.out 7).trans rfl, (blk_cell HGT8.out 8).trans rfl, (blk_cell HGT8.out 9).trans rfl, (blk_cell HGT8.out 10).trans rfl, (blk_cell HGT8.out 11).trans rfl, (blk_cell HGT8.out 12).trans rfl, (blk_cell HGT8.out 13).trans rfl, (blk_cell HGT8.out 14).trans rfl, (blk_cell HGT8.out 15).trans rfl⟩ (fun hHeld => ?_)
            clear hK K
            refine norm_ (a' := ?_) ?_ ?_
            rotate_left
            · show Act.put _ (some 56) _ = _
              simp only [Act.put, List.setIfInBounds_toArray, List.set_cons_zero, List.set_cons_succ, i64_w, i32_w]
              rfl
            refine pure_ (i := 7) (N := some 58) (v := ?_) (a' := ?_) #[true, true, true, true, true, true, true, true] rfl rfl (any_of HT_.out (by kernel_rfl)) (fun _ _ _ h => h) (Or.inl ⟨by rfl, ?_⟩) ?_ ?_
            rotate_left
            · intro w'
              go_simp
              with_reducible rfl
            rotate_left
            · simp only [Act.put, List.setIfInBounds_toArray, List.set_cons_zero, List.set_cons_succ, i64_w, i32_w]
              rfl
            refine done_ (done_of HT_.out (by kernel_rfl)) ?_
            clear hHeld HT_ HW_
            have HGQc2 : w8.cell? ⟨w2.heap.size + 1 + 1, 2, none⟩ = some (.slice none 0 0) := (blk_cell HGQ8.out 2).trans rfl
            have qf := blk_frozen HGQ8.out 2
            go_wp2_with ((with_reducible refine gate_builtin (b := .append) (xs := #[.tmp 62, .tmp 63]) rfl ?_); at_builtin; refine app_none rfl (.tmp 62) (.tmp 63) rfl rfl rfl ?_)
            clear qf
            clear HGQc2
            have hch : Chg (· = w2.heap.size + 1 + 1) w8 (w8.setCell ⟨w2.heap.size + 1 + 1, 2, none⟩ (.slice none 0 0)) := Chg.setCell (F := (· = w2.heap.size + 1 + 1)) (Chg.refl _ _) (p := ⟨w2.heap.size + 1 + 1, 2, none⟩) (Or.inl rfl) _
            have HB9 : Aside0 (Below w.heap.size w (w8.setCell ⟨w2.heap.size + 1 + 1, 2, none⟩ (.slice none 0 0))) := ⟨HB8.out.trans (hch.below HB8.out.size (fun i hi => by have e : i = w2.heap.size + 1 + 1 := hi; rw [e]; exact N_QB.out))⟩
            have HWS9 := Aside0.mk (HWS8.out.cell hch HGQ8.out (by decide) N_Q0.out N_Q1.out)
            have HGW9 := Aside0.mk (hch.heap HGW8.out N_WQ.out)
            have HGQ9 := Aside0.mk (blk_put HGQ8.out 2 (.slice none 0 0) rfl)
            have HG39 := Aside0.mk (hch.heap HG38.out N_3Q.out)
            have HGT9 := Aside0.mk (hch.heap HGT8.out N_TQ.out)
            clear hch HB8 HWS8 HGW8 HGQ8 HG38 HGT8
            generalize (w8.setCell ⟨w2.heap.size + 1 + 1, 2, none⟩ (.slice none 0 0)) = w9 at HB9 HWS9 HGW9 HGQ9 HG39 HGT9 ⊢
            have hbd : Below w9.heap.size w9 w9.drew := below_drew1 (Below.refl _ _)
            have HB10 := Aside0.mk (below_step HB9.out hbd)
            have HWS10 := Aside0.mk (HWS9.out.below hbd)
            have HGW10 := Aside0.mk ((hbd.block _ (blk_lt HGW9.out)).trans HGW9.out)
            have HGQ10 := Aside0.mk ((hbd.block _ (blk_lt HGQ9.out)).trans HGQ9.out)
            have HG310 := Aside0.mk ((hbd.block _ (blk_lt HG39.out)).trans HG39.out)
            have HGT10 := Aside0.mk ((hbd.block _ (blk_lt HGT9.out)).trans HGT9.out)
            clear HB9 HWS9 HGW9 HGQ9 HG39 HGT9 hbd
            refine start_ (n := 9) (S := fun w' => w'.cell? ⟨w2.heap.size + 1, 0, none⟩ = some (.pointer (some ⟨w.heap.size, 0, none⟩)) ∧ w'.cell? ⟨w2.heap.size + 1, 1, none⟩ = some (.pointer (some ⟨w1.heap.size, 0, none⟩)) ∧ w'.cell? ⟨w2.heap.size + 1, 2, none⟩ = some (.pointer none) ∧ w'.cell? ⟨w2.heap.size + 1, 3, none⟩ = some (.pointer (some ⟨w2.heap.size, 0, none⟩)) ∧ w'.cell? ⟨w2.heap.size + 1 + 1, 0, none⟩ = some (v0) ∧ w'.cell? ⟨w2.heap.size + 1 + 1, 1, none⟩ = some (v1) ∧ w'.cell? ⟨w2.heap.size + 1 + 1, 2, none⟩ = some (.slice none 0 0) ∧ w'.cell? ⟨w2.heap.size + 1 + 1, 3, none⟩ = some (.slice none 0 0)) (ds := []) #[false, false, false, false, false, false, false, false, false] (by kernel_rfl) rfl rfl ⟨(blk_cell HGW10.out 0).trans rfl, (blk_cell HGW10.out 1).trans rfl, (blk_cell HGW10.out 2).trans rfl, (blk_cell HGW10.out 3).trans rfl, (blk_cell HGQ10.out 0).trans rfl, (blk_cell HGQ10.out 1).trans rfl, (blk_cell HGQ10.out 2).trans rfl, (blk_cell HGQ10.out 3).trans rfl⟩ (fun hHeld => ?_)
            refine with_tabW writes_tab19 writes_bits19 (fun HT_ HW_ => ?_)
            generalize w9.drew = w10 at HB10 HWS10 HGW10 HGQ10 HG310 HGT10 hHeld ⊢
            refine pure_ (i := 0) (N := some 66) (v := ?_) (a' := ?_) #[true, false, false, false, false, false, false, false, false] rfl rfl (any_of HT_.out (by kernel_rfl)) (fun _ _ _ h => h) (Or.inl ⟨by rfl, ?_⟩) ?_ ?_
            rotate_left
            · intro w'
              go_simp
              with_reducible rfl
            rotate_left
            · simp only [Act.put, List.setIfInBounds_toArray, List.set_cons_zero, List.set_cons_succ, i64_w, i32_w]
              rfl
            refine pure_ (i := 1) (N := some 67) (v := ?_) (a' := ?_) #[true, true, false, false, false, false, false, false, false] rfl rfl (any_of HT_.out (by kernel_rfl)) (fun _ _ _ h => h) (Or.inl ⟨by rfl, ?_⟩) ?_ ?_
            rotate_left
            · intro w'
              go_simp
              with_reducible rfl
            rotate_left
            · simp only [Act.put, List.setIfInBounds_toArray, List.set_cons_zero, List.set_cons_succ, i64_w, i32_w]
              rfl
            refine pure_ (i := 2) (N := some 68) (v := ?_) (a' := ?_) #[true, true, true, false, false, false, false, false, false] rfl rfl (any_of HT_.out (by kernel_rfl)) (fun _ _ _ h => h) (Or.inl ⟨by rfl, ?_⟩) ?_ ?_
            rotate_left
            · intro w'
              go_simp
              with_reducible rfl
            rotate_left
            · simp only [Act.put, List.setIfInBounds_toArray, List.set_cons_zero, List.set_cons_succ, i64_w, i32_w]
              rfl
            refine pure_ (i := 4) (N := some 70) (v := ?_) (a' := ?_) #[true, true, true, false, true, false, false, false, false] rfl rfl (any_of HT_.out (by kernel_rfl)) (fun _ _ _ h => h) (Or.inl ⟨by rfl, ?_⟩) ?_ ?_
            rotate_left
            · intro w'
              go_simp
              with_reducible rfl
            rotate_left
            · simp only [Act.put, List.setIfInBounds_toArray, List.set_cons_zero, List.set_cons_succ, i64_w, i32_w]
              rfl
            refine pure_ (i := 5) (N := some 71) (v := ?_) (a' := ?_) #[true, true, true, false, true, true, false, false, false] rfl rfl (any_of HT_.out (by kernel_rfl)) (fun _ _ _ h => h) (Or.inl ⟨by rfl, ?_⟩) ?_ ?_
            rotate_left
            · intro w'
              go_simp
              with_reducible rfl
            rotate_left
            · simp only [Act.put, List.setIfInBounds_toArray, List.set_cons_zero, List.set_cons_succ, i64_w, i32_w]
              rfl
            refine take_ (i := 3) (N := some 69) (v := ?_) (a' := ?_) #[true, true, true, true, true, true, false, false, false] rfl rfl (take_ofW HT_.out HW_.out (by kernel_rfl)) (fun _ _ _ h => h) (Or.inl ⟨by rfl, ?_⟩) hHeld ?_ ?_
            rotate_left
            · rintro w' ⟨s0, s1, s2, s3, s4, s5, s6, s7⟩
              go_simp
              with_reducible rfl
            rotate_left
            · simp only [Act.put, List.setIfInBounds_toArray, List.set_cons_zero, List.set_cons_succ, i64_w, i32_w]
              rfl
            refine take_ (i := 6) (N := some 72) (v := ?_) (a' := ?_) #[true, true, true, true, true, true, true, false, false] rfl rfl (take_ofW HT_.out HW_.out (by kernel_rfl)) (fun _ _ _ h => h) (Or.inl ⟨by rfl, ?_⟩) hHeld ?_ ?_
            rotate_left
            · rintro w' ⟨s0, s1, s2, s3, s4, s5, s6, s7⟩
              go_simp
              with_reducible rfl
            rotate_left
            · simp only [Act.put, List.setIfInBounds_toArray, List.set_cons_zero, List.set_cons_succ, i64_w, i32_w]
              rfl
            refine one_ (i := 7) (N := some 73) #[true, true, true, true, true, true, true, true, false] rfl rfl (one_of HT_.out (by kernel_rfl)) (by decide) (fun K hK => ?_)
            refine goes_ Try.func22 (by kernel_rfl) rfl #[.pointer none, .slice none 0 0] (by rfl) rfl rfl (by (try simp only [List.map_toArray, List.map_cons, List.map_nil]); first | done | rfl) ?_
            refine (hand_calls (.pointer none) [] w10 none 0 (Kd.C_nil _ _) (Nat.le_refl _) (by simp) (ask_dead (Or.inl rfl))).mono ?_
            rintro e w11 ⟨rfl, hb⟩
            refine ⟨_, rfl, ?_⟩
            have HB11 := Aside0.mk (below_step HB10.out hb)
            have HWS11 := Aside0.mk (HWS10.out.below hb)
            have HGW11 := Aside0.mk ((hb.block _ (blk_lt HGW10.out)).trans HGW10.out)
            have HGQ11 := Aside0.mk ((hb.block _ (blk_lt HGQ10.out)).trans HGQ10.out)
            have HG311 := Aside0.mk ((hb.block _ (blk_lt HG310.out)).trans HG310.out)
            have HGT11 := Aside0.mk ((hb.block _ (blk_lt HGT10.out)).trans HGT10.out)
            clear HB10 HWS10 HGW10 HGQ10 HG310 HGT10 hb
            refine hK.out _ _ ⟨(blk_cell HGW11.out 0).trans rfl, (blk_cell HGW11.out 1).trans rfl, (blk_cell HGW11.out 2).trans rfl, (blk_cell HGW11.out 3).trans rfl, (blk_cell HGQ11.out 0).trans rfl, (blk_cell HGQ11.out 1).trans rfl, (blk_cell HGQ11.out 2).trans rfl, (blk_cell HGQ11.out 3).trans rfl⟩ (fun hHeld => ?_)
            clear hK K
            refine norm_ (a' := ?_) ?_ ?_
            rotate_left
            · show Act.put _ (some 73) _ = _
              simp only [Act.put, List.setIfInBounds_toArray, List.set_cons_zero, List.set_cons_succ, i64_w, i32_w]
              rfl
            refine pure_ (i := 8) (N := some 74) (v := ?_) (a' := ?_) #[true, true, true, true, true, true, true, true, true] rfl rfl (any_of HT_.out (by kernel_rfl)) (fun _ _ _ h => h) (Or.inl ⟨by rfl, ?_⟩) ?_ ?_
            rotate_left
            · intro w'
              go_simp
              with_reducible rfl
            rotate_left
            · simp only [Act.put, List.setIfInBounds_toArray, List.set_cons_zero, List.set_cons_succ, i64_w, i32_w]
              rfl
            refine done_ (done_of HT_.out (by kernel_rfl)) ?_
            clear hHeld HT_ HW_
            go_wp2
            go_roundg kq
            case measure => omega
            case rel => exact ⟨j + 1, _, _, _, _, _, _, by first | rfl | simp, ⟨by have := HJ.out; omega⟩, ⟨bndw_next HBN.out.1, bndw_next HBN.out.2⟩, HB11, HWS11, HGW11, HGQ11, HG311⟩
          · have HDE : Aside0 (deadE t = 0) := ⟨if_neg hkd⟩
            rw [put_fine hkd]
            have cq : (kindOf t.kind == 1) = false := beq_eq_false_iff_ne.mpr hkd
            clear hkd
            go_wp2_with fail
            clear cq
            have hbd : Below w6.heap.size w6 w6.drew := below_drew1 (Below.refl _ _)
            have HB7 := Aside0.mk (below_step HB6.out hbd)
            have HWS7 := Aside0.mk (HWS6.out.below hbd)
            have HGW7 := Aside0.mk ((hbd.block _ (blk_lt HGW6.out)).trans HGW6.out)
            have HGQ7 := Aside0.mk ((hbd.block _ (blk_lt HGQ6.out)).trans HGQ6.out)
            have HG37 := Aside0.mk ((hbd.block _ (blk_lt HG36.out)).trans HG36.out)
            have HGT7 := Aside0.mk ((hbd.block _ (blk_lt HGT6.out)).trans HGT6.out)
            clear HB6 HWS6 HGW6 HGQ6 HG36 HGT6 hbd
            refine start_ (n := 8) (S := fun w' => w'.cell? ⟨w2.heap.size + 1, 0, none⟩ = some (.pointer (some ⟨w.heap.size, 0, none⟩)) ∧ w'.cell? ⟨w2.heap.size + 1, 1, none⟩ = some (.pointer (some ⟨w1.heap.size, 0, none⟩)) ∧ w'.cell? ⟨w2.heap.size + 1, 2, none⟩ = some (.pointer none) ∧ w'.cell? ⟨w2.heap.size + 1, 3, none⟩ = some (.pointer (some ⟨w2.heap.size, 0, none⟩)) ∧ w'.cell? ⟨wr.heap.size, 0, none⟩ = some (.int .i64 t.1) ∧ w'.cell? ⟨wr.heap.size, 1, none⟩ = some (.int .i64 t.kind) ∧ w'.cell? ⟨wr.heap.size, 2, none⟩ = some (.int .u64 t.n) ∧ w'.cell? ⟨wr.heap.size, 3, none⟩ = some (.int .i64 t.i) ∧ w'.cell? ⟨wr.heap.size, 4, none⟩ = some (.int .i64 t.w) ∧ w'.cell? ⟨wr.heap.size, 5, none⟩ = some (.int .u8 (rd t.id 0)) ∧ w'.cell? ⟨wr.heap.size, 6, none⟩ = some (.int .u8 (rd t.id 1)) ∧ w'.cell? ⟨wr.heap.size, 7, none⟩ = some (.int .u8 (rd t.id 2)) ∧ w'.cell? ⟨wr.heap.size, 8, none⟩ = some (.int .u8 (rd t.id 3)) ∧ w'.cell? ⟨wr.heap.size, 9, none⟩ = some (.int .u8 (rd t.id 4)) ∧ w'.cell? ⟨wr.heap.size, 10, none⟩ = some (.int .u8 (rd t.id 5)) ∧ w'.cell? ⟨wr.heap.size, 11, none⟩ = some (.int .u8 (rd t.id 6)) ∧ w'.cell? ⟨wr.heap.size, 12, none⟩ = some (.int .u8 (rd t.id 7)) ∧ w'.cell? ⟨wr.heap.size, 13, none⟩ = some (.int .i16 t.p.1) ∧ w'.cell? ⟨wr.heap.size, 14, none⟩ = some (.int .i16 t.p.2) ∧ w'.cell? ⟨wr.heap.size, 15, none⟩ = some (.slice A' t.t.length c')) (ds := []) #[false, false, false, false, false, false, false, false] (by kernel_rfl) rfl rfl ⟨(blk_cell HGW7.out 0).trans rfl, (blk_cell HGW7.out 1).trans rfl, (blk_cell HGW7.out 2).trans rfl, (blk_cell HGW7.out 3).trans rfl, (blk_cell HGT7.out 0).trans rfl, (blk_cell HGT7.out 1).trans rfl, (blk_cell HGT7.out 2).trans rfl, (blk_cell HGT7.out 3).trans rfl, (blk_cell HGT7.out 4).trans rfl, (blk_cell HGT7.out 5).trans rfl, (blk_cell HGT7.out 6).trans rfl, (blk_cell HGT7.out 7).trans rfl, (blk_cell HGT7.out 8).trans rfl, (blk_cell HGT7.out 9).trans rfl, (blk_cell HGT7.out 10).trans rfl, (blk_cell HGT7.out 11).trans rfl, (blk_cell HGT7.out 12).trans rfl, (blk_cell HGT7.out 13).trans rfl, (blk_cell HGT7.out 14).trans rfl, (blk_cell HGT7.out 15).trans rfl⟩ (fun hHeld => ?_)
            refine with_tabW writes_tab16 writes_bits16 (fun HT_ HW_ => ?_)
            generalize w6.drew = w7 at HB7 HWS7 HGW7 HGQ7 HG37 HGT7 hHeld ⊢
            refine pure_ (i := 0) (N := some 51) (v := ?_) (a' := ?_) #[true, false, false, false, false, false, false, false] rfl rfl (any_of HT_.out (by kernel_rfl)) (fun _ _ _ h => h) (Or.inl ⟨by rfl, ?_⟩) ?_ ?_
            rotate_left
            · intro w'
              go_simp
              with_reducible rfl
            rotate_left
            · simp only [Act.put, List.setIfInBounds_toArray, List.set_cons_zero, List.set_cons_succ, i64_w, i32_w]
              rfl
            refine pure_ (i := 1) (N := some 52) (v := ?_) (a' := ?_) #[true, true, false, false, false, false, false, false] rfl rfl (any_of HT_.out (by kernel_rfl)) (fun _ _ _ h => h) (Or.inl ⟨by rfl, ?_⟩) ?_ ?_
            rotate_left
            · intro w'
              go_simp
              with_reducible rfl
            rotate_left
            · simp only [Act.put, List.setIfInBounds_toArray, List.set_cons_zero, List.set_cons_succ, i64_w, i32_w]
              rfl
            refine pure_ (i := 2) (N := some 53) (v := ?_) (a' := ?_) #[true, true, true, false, false, false, false, false] rfl rfl (any_of HT_.out (by kernel_rfl)) (fun _ _ _ h => h) (Or.inl ⟨by rfl, ?_⟩) ?_ ?_
            rotate_left
            · intro w'
              go_simp
              with_reducible rfl
            rotate_left
            · simp only [Act.put, List.setIfInBounds_toArray, List.set_cons_zero, List.set_cons_succ, i64_w, i32_w]
              rfl
            refine take_ (i := 3) (N := some 54) (v := ?_) (a' := ?_) #[true, true, true, true, false, false, false, false] rfl rfl (take_ofW HT_.out HW_.out (by kernel_rfl)) (fun _ _ _ h => h) (Or.inl ⟨by rfl, ?_⟩) hHeld ?_ ?_
            rotate_left
            · rintro w' ⟨s0, s1, s2, s3, s4, s5, s6, s7, s8, s9, s10, s11, s12, s13, s14, s15, s16, s17, s18, s19⟩
              go_simp
              with_reducible rfl
            rotate_left
            · simp only [Act.put, List.setIfInBounds_toArray, List.set_cons_zero, List.set_cons_succ, i64_w, i32_w]
              rfl
            refine take_ (i := 4) (N := some 55) (v := ?_) (a' := ?_) #[true, true, true, true, true, false, false, false] rfl rfl (take_ofW HT_.out HW_.out (by kernel_rfl)) (fun _ _ _ h => h) (Or.inl ⟨by rfl, ?_⟩) hHeld ?_ ?_
            rotate_left
            · rintro w' ⟨s0, s1, s2, s3, s4, s5, s6, s7, s8, s9, s10, s11, s12, s13, s14, s15, s16, s17, s18, s19⟩
              go_simp
              with_reducible rfl
            rotate_left
            · simp only [Act.put, List.setIfInBounds_toArray, List.set_cons_zero, List.set_cons_succ, i64_w, i32_w]
              rfl
            refine pure_ (i := 6) (N := some 57) (v := ?_) (a' := ?_) #[true, true, true, true, true, false, true, false] rfl rfl (any_of HT_.out (by kernel_rfl)) (fun _ _ _ h => h) (Or.inl ⟨by rfl, ?_⟩) ?_ ?_
            rotate_left
            · intro w'
              go_simp
              with_reducible rfl
            rotate_left
            · simp only [Act.put, List.setIfInBounds_toArray, List.set_cons_zero, List.set_cons_succ, i64_w, i32_w]
              rfl
            refine one_ (i := 5) (N := some 56) #[true, true, true, true, true, true, true, false] rfl rfl (one_of HT_.out (by kernel_rfl)) (by decide) (fun K hK => ?_)
            refine goes_ Try.func21 (by kernel_rfl) rfl #[.pointer none, .agg #[.int .i64 t.1, .int .i64 t.kind, .int .u64 t.n, .int .i64 t.i, .int .i64 t.w, .int .u8 (rd t.id 0), .int .u8 (rd t.id 1), .int .u8 (rd t.id 2), .int .u8 (rd t.id 3), .int .u8 (rd t.id 4), .int .u8 (rd t.id 5), .int .u8 (rd t.id 6), .int .u8 (rd t.id 7), .int .i16 t.p.1, .int .i16 t.p.2, .slice A' t.t.length c']] (by rfl) rfl rfl (by (try simp only [List.map_toArray, List.map_cons, List.map_nil]); first | done | rfl) ?_
            refine (putD_all (.pointer none) w7 (Or.inl rfl) t HTG.out.1 A' c' (Kd.C_below HC0.out HB7.out) (by have := HTG.out.2; omega)).mono ?_
            rw [HDE.out]
            rintro e w8 ⟨rfl, hb⟩
            refine ⟨_, rfl, ?_⟩
            have HB8 := Aside0.mk (below_step HB7.out hb)
            have HWS8 := Aside0.mk (HWS7.out.below hb)
            have HGW8 := Aside0.mk ((hb.block _ (blk_lt HGW7.out)).trans HGW7.out)
            have HGQ8 := Aside0.mk ((hb.block _ (blk_lt HGQ7.out)).trans HGQ7.out)
            have HG38 := Aside0.mk ((hb.block _ (blk_lt HG37.out)).trans HG37.out)
            have HGT8 := Aside0.mk ((hb.block _ (blk_lt HGT7.out)).trans HGT7.out)
            clear HB7 HWS7 HGW7 HGQ7 HG37 HGT7 hb
            refine hK.out _ _ ⟨(blk_cell HGW8.out 0).trans rfl, (blk_cell HGW8.out 1).trans rfl, (blk_cell HGW8.out 2).trans rfl, (blk_cell HGW8.out 3).trans rfl, (blk_cell HGT8.out 0).trans rfl, (blk_cell HGT8.out 1).trans rfl, (blk_cell HGT8.out 2).trans rfl, (blk_cell HGT8.out 3).trans rfl, (blk_cell HGT8.out 4).trans rfl, (blk_cell HGT8.out 5).trans rfl, (blk_cell HGT8.out 6).trans rfl, (blk_cell HGT8.out 7).trans rfl, (blk_cell HGT8.out 8).trans rfl, (blk_cell HGT8.out 9).trans rfl, (blk_cell HGT8.out 10).trans rfl, (blk_cell HGT8.out 11).trans rfl, (blk_cell HGT8.out 12).trans rfl, (blk_cell HGT8.out 13).trans rfl, (blk_cell HGT8.out 14).trans rfl, (blk_cell HGT8.out 15).trans rfl⟩ (fun hHeld => ?_)
            clear hK K
            refine norm_ (a' := ?_) ?_ ?_
            rotate_left
            · show Act.put _ (some 56) _ = _
              simp only [Act.put, List.setIfInBounds_toArray, List.set_cons_zero, List.set_cons_succ, i64_w, i32_w]
              rfl
            refine pure_ (i := 7) (N := some 58) (v := ?_) (a' := ?_) #[true, true, true, true, true, true, true, true] rfl rfl (any_of HT_.out (by kernel_rfl)) (fun _ _ _ h => h) (Or.inl ⟨by rfl, ?_⟩) ?_ ?_
            rotate_left
            · intro w'
              go_simp
              with_reducible rfl
            rotate_left
            · simp only [Act.put, List.setIfInBounds_toArray, List.set_cons_zero, List.set_cons_succ, i64_w, i32_w]
              rfl
            refine done_ (done_of HT_.out (by kernel_rfl)) ?_
            clear hHeld HT_ HW_
            have HGQc2 : w8.cell? ⟨w2.heap.size + 1 + 1, 2, none⟩ = some (.slice none 0 0) := (blk_cell HGQ8.out 2).trans rfl
            have qf := blk_frozen HGQ8.out 2
            go_wp2_with ((with_reducible refine gate_builtin (b := .append) (xs := #[.tmp 62, .tmp 63]) rfl ?_); at_builtin; refine app_none rfl (.tmp 62) (.tmp 63) rfl rfl rfl ?_)
            clear qf
            clear HGQc2
            have hch : Chg (· = w2.heap.size + 1 + 1) w8 (w8.setCell ⟨w2.heap.size + 1 + 1, 2, none⟩ (.slice none 0 0)) := Chg.setCell (F := (· = w2.heap.size + 1 + 1)) (Chg.refl _ _) (p := ⟨w2.heap.size + 1 + 1, 2, none⟩) (Or.inl rfl) _
            have HB9 : Aside0 (Below w.heap.size w (w8.setCell ⟨w2.heap.size + 1 + 1, 2, none⟩ (.slice none 0 0))) := ⟨HB8.out.trans (hch.below HB8.out.size (fun i hi => by have e : i = w2.heap.size + 1 + 1 := hi; rw [e]; exact N_QB.out))⟩
            have HWS9 := Aside0.mk (HWS8.out.cell hch HGQ8.out (by decide) N_Q0.out N_Q1.out)
            have HGW9 := Aside0.mk (hch.heap HGW8.out N_WQ.out)
            have HGQ9 := Aside0.mk (blk_put HGQ8.out 2 (.slice none 0 0) rfl)
            have HG39 := Aside0.mk (hch.heap HG38.out N_3Q.out)
            have HGT9 := Aside0.mk (hch.heap HGT8.out N_TQ.out)
            clear hch HB8 HWS8 HGW8 HGQ8 HG38 HGT8
            generalize (w8.setCell ⟨w2.heap.size + 1 + 1, 2, none⟩ (.slice none 0 0)) = w9 at HB9 HWS9 HGW9 HGQ9 HG39 HGT9 ⊢
            have hbd : Below w9.heap.size w9 w9.drew := below_drew1 (Below.refl _ _)
            have HB10 := Aside0.mk (below_step HB9.out hbd)
            have HWS10 := Aside0.mk (HWS9.out.below hbd)
            have HGW10 := Aside0.mk ((hbd.block _ (blk_lt HGW9.out)).trans HGW9.out)
            have HGQ10 := Aside0.mk ((hbd.block _ (blk_lt HGQ9.out)).trans HGQ9.out)
            have HG310 := Aside0.mk ((hbd.block _ (blk_lt HG39.out)).trans HG39.out)
            have HGT10 := Aside0.mk ((hbd.block _ (blk_lt HGT9.out)).trans HGT9.out)
            clear HB9 HWS9 HGW9 HGQ9 HG39 HGT9 hbd
            refine start_ (n := 9) (S := fun w' => w'.cell? ⟨w2.heap.size + 1, 0, none⟩ = some (.pointer (some ⟨w.heap.size, 0, none⟩)) ∧ w'.cell? ⟨w2.heap.size + 1, 1, none⟩ = some (.pointer (some ⟨w1.heap.size, 0, none⟩)) ∧ w'.cell? ⟨w2.heap.size + 1, 2, none⟩ = some (.pointer none) ∧ w'.cell? ⟨w2.heap.size + 1, 3, none⟩ = some (.pointer (some ⟨w2.heap.size, 0, none⟩)) ∧ w'.cell? ⟨w2.heap.size + 1 + 1, 0, none⟩ = some (v0) ∧ w'.cell? ⟨w2.heap.size + 1 + 1, 1, none⟩ = some (v1) ∧ w'.cell? ⟨w2.heap.size + 1 + 1, 2, none⟩ = some (.slice none 0 0) ∧ w'.cell? ⟨w2.heap.size + 1 + 1, 3, none⟩ = some (.slice none 0 0)) (ds := []) #[false, false, false, false, false, false, false, false, false] (by kernel_rfl) rfl rfl ⟨(blk_cell HGW10.out 0).trans rfl, (blk_cell HGW10.out 1).trans rfl, (blk_cell HGW10.out 2).trans rfl, (blk_cell HGW10.out 3).trans rfl, (blk_cell HGQ10.out 0).trans rfl, (blk_cell HGQ10.out 1).trans rfl, (blk_cell HGQ10.out 2).trans rfl, (blk_cell HGQ10.out 3).trans rfl⟩ (fun hHeld => ?_)
            refine with_tabW writes_tab19 writes_bits19 (fun HT_ HW_ => ?_)
            generalize w9.drew = w10 at HB10 HWS10 HGW10 HGQ10 HG310 HGT10 hHeld ⊢
            refine pure_ (i := 0) (N := some 66) (v := ?_) (a' := ?_) #[true, false, false, false, false, false, false, false, false] rfl rfl (any_of HT_.out (by kernel_rfl)) (fun _ _ _ h => h) (Or.inl ⟨by rfl, ?_⟩) ?_ ?_
            rotate_left
            · intro w'
              go_simp
              with_reducible rfl
            rotate_left
            · simp only [Act.put, List.setIfInBounds_toArray, List.set_cons_zero, List.set_cons_succ, i64_w, i32_w]
              rfl
            refine pure_ (i := 1) (N := some 67) (v := ?_) (a' := ?_) #[true, true, false, false, false, false, false, false, false] rfl rfl (any_of HT_.out (by kernel_rfl)) (fun _ _ _ h => h) (Or.inl ⟨by rfl, ?_⟩) ?_ ?_
            rotate_left
            · intro w'
              go_simp
              with_reducible rfl
            rotate_left
            · simp only [Act.put, List.setIfInBounds_toArray, List.set_cons_zero, List.set_cons_succ, i64_w, i32_w]
              rfl
            refine pure_ (i := 2) (N := some 68) (v := ?_) (a' := ?_) #[true, true, true, false, false, false, false, false, false] rfl rfl (any_of HT_.out (by kernel_rfl)) (fun _ _ _ h => h) (Or.inl ⟨by rfl, ?_⟩) ?_ ?_
            rotate_left
            · intro w'
              go_simp
              with_reducible rfl
            rotate_left
            · simp only [Act.put, List.setIfInBounds_toArray, List.set_cons_zero, List.set_cons_succ, i64_w, i32_w]
              rfl
            refine pure_ (i := 4) (N := some 70) (v := ?_) (a' := ?_) #[true, true, true, false, true, false, false, false, false] rfl rfl (any_of HT_.out (by kernel_rfl)) (fun _ _ _ h => h) (Or.inl ⟨by rfl, ?_⟩) ?_ ?_
            rotate_left
            · intro w'
              go_simp
              with_reducible rfl
            rotate_left
            · simp only [Act.put, List.setIfInBounds_toArray, List.set_cons_zero, List.set_cons_succ, i64_w, i32_w]
              rfl
            refine pure_ (i := 5) (N := some 71) (v := ?_) (a' := ?_) #[true, true, true, false, true, true, false, false, false] rfl rfl (any_of HT_.out (by kernel_rfl)) (fun _ _ _ h => h) (Or.inl ⟨by rfl, ?_⟩) ?_ ?_
            rotate_left
            · intro w'
              go_simp
              with_reducible rfl
            rotate_left
            · simp only [Act.put, List.setIfInBounds_toArray, List.set_cons_zero, List.set_cons_succ, i64_w, i32_w]
              rfl
            refine take_ (i := 3) (N := some 69) (v := ?_) (a' := ?_) #[true, true, true, true, true, true, false, false, false] rfl rfl (take_ofW HT_.out HW_.out (by kernel_rfl)) (fun _ _ _ h => h) (Or.inl ⟨by rfl, ?_⟩) hHeld ?_ ?_
            rotate_left
            · rintro w' ⟨s0, s1, s2, s3, s4, s5, s6, s7⟩
              go_simp
              with_reducible rfl
            rotate_left
            · simp only [Act.put, List.setIfInBounds_toArray, List.set_cons_zero, List.set_cons_succ, i64_w, i32_w]
              rfl
            refine take_ (i := 6) (N := some 72) (v := ?_) (a' := ?_) #[true, true, true, true, true, true, true, false, false] rfl rfl (take_ofW HT_.out HW_.out (by kernel_rfl)) (fun _ _ _ h => h) (Or.inl ⟨by rfl, ?_⟩) hHeld ?_ ?_
            rotate_left
            · rintro w' ⟨s0, s1, s2, s3, s4, s5, s6, s7⟩
              go_simp
              with_reducible rfl
            rotate_left
            · simp only [Act.put, List.setIfInBounds_toArray, List.set_cons_zero, List.set_cons_succ, i64_w, i32_w]
              rfl
            refine one_ (i := 7) (N := some 73) #[true, true, true, true, true, true, true, true, false] rfl rfl (one_of HT_.out (by kernel_rfl)) (by decide) (fun K hK => ?_)
            refine goes_ Try.func22 (by kernel_rfl) rfl #[.pointer none, .slice none 0 0] (by rfl) rfl rfl (by (try simp only [List.map_toArray, List.map_cons, List.map_nil]); first | done | rfl) ?_
            refine (hand_calls (.pointer none) [] w10 none 0 (Kd.C_nil _ _) (Nat.le_refl _) (by simp) (ask_dead (Or.inl rfl))).mono ?_
            rintro e w11 ⟨rfl, hb⟩
            refine ⟨_, rfl, ?_⟩
            have HB11 := Aside0.mk (below_step HB10.out hb)
            have HWS11 := Aside0.mk (HWS10.out.below hb)
            have HGW11 := Aside0.mk ((hb.block _ (blk_lt HGW10.out)).trans HGW10.out)
            have HGQ11 := Aside0.mk ((hb.block _ (blk_lt HGQ10.out)).trans HGQ10.out)
            have HG311 := Aside0.mk ((hb.block _ (blk_lt HG310.out)).trans HG310.out)
            have HGT11 := Aside0.mk ((hb.block _ (blk_lt HGT10.out)).trans HGT10.out)
            clear HB10 HWS10 HGW10 HGQ10 HG310 HGT10 hb
            refine hK.out _ _ ⟨(blk_cell HGW11.out 0).trans rfl, (blk_cell HGW11.out 1).trans rfl, (blk_cell HGW11.out 2).trans rfl, (blk_cell HGW11.out 3).trans rfl, (blk_cell HGQ11.out 0).trans rfl, (blk_cell HGQ11.out 1).trans rfl, (blk_cell HGQ11.out 2).trans rfl, (blk_cell HGQ11.out 3).trans rfl⟩ (fun hHeld => ?_)
            clear hK K
            refine norm_ (a' := ?_) ?_ ?_
            rotate_left
            · show Act.put _ (some 73) _ = _
              simp only [Act.put, List.setIfInBounds_toArray, List.set_cons_zero, List.set_cons_succ, i64_w, i32_w]
              rfl
            refine pure_ (i := 8) (N := some 74) (v := ?_) (a' := ?_) #[true, true, true, true, true, true, true, true, true] rfl rfl (any_of HT_.out (by kernel_rfl)) (fun _ _ _ h => h) (Or.inl ⟨by rfl, ?_⟩) ?_ ?_
            rotate_left
            · intro w'
              go_simp
              with_reducible rfl
            rotate_left
            · simp only [Act.put, List.setIfInBounds_toArray, List.set_cons_zero, List.set_cons_succ, i64_w, i32_w]
              rfl
            refine done_ (done_of HT_.out (by kernel_rfl)) ?_
            clear hHeld HT_ HW_
            go_wp2
            go_roundg kq
            case measure => omega
            case rel => exact ⟨j + 1, _, _, _, _, _, _, by first | rfl | simp, ⟨by have := HJ.out; omega⟩, ⟨bndw_next HBN.out.1, bndw_next HBN.out.2⟩, HB11, HWS11, HGW11, HGQ11, HG311⟩
      · as_aux_lemma =>
          have HGTc0 : w5.cell? ⟨wr.heap.size, 0, none⟩ = some (.int .i64 t.1) := (blk_cell HGT5.out 0).trans rfl
          have HGTc1 : w5.cell? ⟨wr.heap.size, 1, none⟩ = some (.int .i64 t.kind) := (blk_cell HGT5.out 1).trans rfl
          have HGTc2 : w5.cell? ⟨wr.heap.size, 2, none⟩ = some (.int .u64 t.n) := (blk_cell HGT5.out 2).trans rfl
          have HGTc3 : w5.cell? ⟨wr.heap.size, 3, none⟩ = some (.int .i64 t.i) := (blk_cell HGT5.out 3).trans rfl
          have HGTc4 : w5.cell? ⟨wr.heap.size, 4, none⟩ = some (.int .i64 t.w) := (blk_cell HGT5.out 4).trans rfl
          have HGTc5 : w5.cell? ⟨wr.heap.size, 5, none⟩ = some (.int .u8 (rd t.id 0)) := (blk_cell HGT5.out 5).trans rfl
          have HGTc6 : w5.cell? ⟨wr.heap.size, 6, none⟩ = some (.int .u8 (rd t.id 1)) := (blk_cell HGT5.out 6).trans rfl
          have HGTc7 : w5.cell? ⟨wr.heap.size, 7, none⟩ = some (.int .u8 (rd t.id 2)) := (blk_cell HGT5.out 7).trans rfl
          have HGTc8 : w5.cell? ⟨wr.heap.size, 8, none⟩ = some (.int .u8 (rd t.id 3)) := (blk_cell HGT5.out 8).trans rfl
          have HGTc9 : w5.cell? ⟨wr.heap.size, 9, none⟩ = some (.int .u8 (rd t.id 4)) := (blk_cell HGT5.out 9).trans rfl
          have HGTc10 : w5.cell? ⟨wr.heap.size, 10, none⟩ = some (.int .u8 (rd t.id 5)) := (blk_cell HGT5.out 10).trans rfl
          have HGTc11 : w5.cell? ⟨wr.heap.size, 11, none⟩ = some (.int .u8 (rd t.id 6)) := (blk_cell HGT5.out 11).trans rfl
          have HGTc12 : w5.cell? ⟨wr.heap.size, 12, none⟩ = some (.int .u8 (rd t.id 7)) := (blk_cell HGT5.out 12).trans rfl
          have HGTc13 : w5.cell? ⟨wr.heap.size, 13, none⟩ = some (.int .i16 t.p.1) := (blk_cell HGT5.out 13).trans rfl
          have HGTc14 : w5.cell? ⟨wr.heap.size, 14, none⟩ = some (.int .i16 t.p.2) := (blk_cell HGT5.out 14).trans rfl
          have HGTc15 : w5.cell? ⟨wr.heap.size, 15, none⟩ = some (.slice A' t.t.length c') := (blk_cell HGT5.out 15).trans rfl
          go_wp2_with fail
          refine (form_all t HTG.out.1 A' c' _ (Kd.C_below HC0.out HB5.out) (by have := HTG.out.2; omega)).mono ?_
          rintro e w6 ⟨vf, rfl, hrf, hb⟩
          clear HGTc0 HGTc1 HGTc2 HGTc3 HGTc4 HGTc5 HGTc6 HGTc7 HGTc8 HGTc9 HGTc10 HGTc11 HGTc12 HGTc13 HGTc14 HGTc15
          obtain ⟨Af, cf, ef, hlf, _⟩ := hrf.len
          subst ef
          clear hrf hlf
          have HB6 := Aside0.mk (below_step HB5.out hb)
          have HWS6 := Aside0.mk (HWS5.out.below hb)
          have HGW6 := Aside0.mk ((hb.block _ (blk_lt HGW5.out)).trans HGW5.out)
          have HGQ6 := Aside0.mk ((hb.block _ (blk_lt HGQ5.out)).trans HGQ5.out)
          have HG36 := Aside0.mk ((hb.block _ (blk_lt HG35.out)).trans HG35.out)
          have HGT6 := Aside0.mk ((hb.block _ (blk_lt HGT5.out)).trans HGT5.out)
          clear HB5 HWS5 HGW5 HGQ5 HG35 HGT5 hb
          have HGTc1 : w6.cell? ⟨wr.heap.size, 1, none⟩ = some (.int .i64 t.kind) := (blk_cell HGT6.out 1).trans rfl
          go_wp2_with fail
          refine (round7_calls t.kind _).mono ?_
          rintro e w6_ ⟨rfl, hw_⟩
          replace hw_ := hw_.symm
          subst hw_
          clear HGTc1
          by_cases hkd : kindOf t.kind = 1
          · have HDE : Aside0 (deadE t = 2) := ⟨if_pos hkd⟩
            have cq : (kindOf t.kind == 1) = true := beq_iff_eq.mpr hkd
            clear hkd
            go_wp2_with fail
            clear cq
            have hbd : Below w6.heap.size w6 w6.drew := below_drew1 (Below.refl _ _)
            have HB7 := Aside0.mk (below_step HB6.out hbd)
            have HWS7 := Aside0.mk (HWS6.out.below hbd)
            have HGW7 := Aside0.mk ((hbd.block _ (blk_lt HGW6.out)).trans HGW6.out)
            have HGQ7 := Aside0.mk ((hbd.block _ (blk_lt HGQ6.out)).trans HGQ6.out)
            have HG37 := Aside0.mk ((hbd.block _ (blk_lt HG36.out)).trans HG36.out)
            have HGT7 := Aside0.mk ((hbd.block _ (blk_lt HGT6.out)).trans HGT6.out)
            clear HB6 HWS6 HGW6 HGQ6 HG36 HGT6 hbd
            refine start_ (n := 8) (S := fun w' => w'.cell? ⟨w2.heap.size + 1, 0, none⟩ = some (.pointer (some ⟨w.heap.size, 0, none⟩)) ∧ w'.cell? ⟨w2.heap.size + 1, 1, none⟩ = some (.pointer (some ⟨w1.heap.size, 0, none⟩)) ∧ w'.cell? ⟨w2.heap.size + 1, 2, none⟩ = some (.pointer none) ∧ w'.cell? ⟨w2.heap.size + 1, 3, none⟩ = some (.pointer (some ⟨w2.heap.size, 0, none⟩)) ∧ w'.cell? ⟨wr.heap.size, 0, none⟩ = some (.int .i64 t.1) ∧ w'.cell? ⟨wr.heap.size, 1, none⟩ = some (.int .i64 t.kind) ∧ w'.cell? ⟨wr.heap.size, 2, none⟩ = some (.int .u64 t.n) ∧ w'.cell? ⟨wr.heap.size, 3, none⟩ = some (.int .i64 t.i) ∧ w'.cell? ⟨wr.heap.size, 4, none⟩ = some (.int .i64 t.w) ∧ w'.cell? ⟨wr.heap.size, 5, none⟩ = some (.int .u8 (rd t.id 0)) ∧ w'.cell? ⟨wr.heap.size, 6, none⟩ = some (.int .u8 (rd t.id 1)) ∧ w'.cell? ⟨wr.heap.size, 7, none⟩ = some (.int .u8 (rd t.id 2)) ∧ w'.cell? ⟨wr.heap.size, 8, none⟩ = some (.int .u8 (rd t.id 3)) ∧ w'.cell? ⟨wr.heap.size, 9, none⟩ = some (.int .u8 (rd t.id 4)) ∧ w'.cell? ⟨wr.heap.size, 10, none⟩ = some (.int .u8 (rd t.id 5)) ∧ w'.cell? ⟨wr.heap.size, 11, none⟩ = some (.int .u8 (rd t.id 6)) ∧ w'.cell? ⟨wr.heap.size, 12, none⟩ = some (.int .u8 (rd t.id 7)) ∧ w'.cell? ⟨wr.heap.size, 13, none⟩ = some (.int .i16 t.p.1) ∧ w'.cell? ⟨wr.heap.size, 14, none⟩ = some (.int .i16 t.p.2) ∧ w'.cell? ⟨wr.heap.size, 15, none⟩ = some (.slice A' t.t.length c')) (ds := []) #[false, false, false, false, false, false, false, false] (by kernel_rfl) rfl rfl ⟨(blk_cell HGW7.out 0).trans rfl, (blk_cell HGW7.out 1).trans rfl, (blk_cell HGW7.out 2).trans rfl, (blk_cell HGW7.out 3).trans rfl, (blk_cell HGT7.out 0).trans rfl, (blk_cell HGT7.out 1).trans rfl, (blk_cell HGT7.out 2).trans rfl, (blk_cell HGT7.out 3).trans rfl, (blk_cell HGT7.out 4).trans rfl, (blk_cell HGT7.out 5).trans rfl, (blk_cell HGT7.out 6).trans rfl, (blk_cell HGT7.out 7).trans rfl, (blk_cell HGT7.out 8).trans rfl, (blk_cell HGT7.out 9).trans rfl, (blk_cell HGT7.out 10).trans rfl, (blk_cell HGT7.out 11).trans rfl, (blk_cell HGT7.out 12).trans rfl, (blk_cell HGT7.out 13).trans rfl, (blk_cell HGT7.out 14).trans rfl, (blk_cell HGT7.out 15).trans rfl⟩ (fun hHeld => ?_)
            refine with_tabW writes_tab16 writes_bits16 (fun HT_ HW_ => ?_)
            generalize w6.drew = w7 at HB7 HWS7 HGW7 HGQ7 HG37 HGT7 hHeld ⊢
            refine pure_ (i := 0) (N := some 51) (v := ?_) (a' := ?_) #[true, false, false, false, false, false, false, false] rfl rfl (any_of HT_.out (by kernel_rfl)) (fun _ _ _ h => h) (Or.inl ⟨by rfl, ?_⟩) ?_ ?_
            rotate_left
            · intro w'
              go_simp
              with_reducible rfl
            rotate_left
            · simp only [Act.put, List.setIfInBounds_toArray, List.set_cons_zero, List.set_cons_succ, i64_w, i32_w]
              rfl
            refine pure_ (i := 1) (N := some 52) (v := ?_) (a' := ?_) #[true, true, false, false, false, false, false, false] rfl rfl (any_of HT_.out (by kernel_rfl)) (fun _ _ _ h => h) (Or.inl ⟨by rfl, ?_⟩) ?_ ?_
            rotate_left
            · intro w'
              go_simp
              with_reducible rfl
            rotate_left
            · simp only [Act.put, List.setIfInBounds_toArray, List.set_cons_zero, List.set_cons_succ, i64_w, i32_w]
              rfl
            refine pure_ (i := 2) (N := some 53) (v := ?_) (a' := ?_) #[true, true, true, false, false, false, false, false] rfl rfl (any_of HT_.out (by kernel_rfl)) (fun _ _ _ h => h) (Or.inl ⟨by rfl, ?_⟩) ?_ ?_
            rotate_left
            · intro w'
              go_simp
              with_reducible rfl
            rotate_left
            · simp only [Act.put, List.setIfInBounds_toArray, List.set_cons_zero, List.set_cons_succ, i64_w, i32_w]
              rfl
            refine take_ (i := 3) (N := some 54) (v := ?_) (a' := ?_) #[true, true, true, true, false, false, false, false] rfl rfl (take_ofW HT_.out HW_.out (by kernel_rfl)) (fun _ _ _ h => h) (Or.inl ⟨by rfl, ?_⟩) hHeld ?_ ?_
            rotate_left
            · rintro w' ⟨s0, s1, s2, s3, s4, s5, s6, s7, s8, s9, s10, s11, s12, s13, s14, s15, s16, s17, s18, s19⟩
              go_simp
              with_reducible rfl
            rotate_left
            · simp only [Act.put, List.setIfInBounds_toArray, List.set_cons_zero, List.set_cons_succ, i64_w, i32_w]
              rfl
            refine take_ (i := 4) (N := some 55) (v := ?_) (a' := ?_) #[true, true, true, true, true, false, false, false] rfl rfl (take_ofW HT_.out HW_.out (by kernel_rfl)) (fun _ _ _ h => h) (Or.inl ⟨by rfl, ?_⟩) hHeld ?_ ?_
            rotate_left
            · rintro w' ⟨s0, s1, s2, s3, s4, s5, s6, s7, s8, s9, s10, s11, s12, s13, s14, s15, s16, s17, s18, s19⟩
              go_simp
              with_reducible rfl
            rotate_left
            · simp only [Act.put, List.setIfInBounds_toArray, List.set_cons_zero, List.set_cons_succ, i64_w, i32_w]
              rfl
            refine pure_ (i := 6) (N := some 57) (v := ?_) (a' := ?_) #[true, true, true, true, true, false, true, false] rfl rfl (any_of HT_.out (by kernel_rfl)) (fun _ _ _ h => h) (Or.inl ⟨by rfl, ?_⟩) ?_ ?_
            rotate_left
            · intro w'
              go_simp
              with_reducible rfl
            rotate_left
            · simp only [Act.put, List.setIfInBounds_toArray, List.set_cons_zero, List.set_cons_succ, i64_w, i32_w]
              rfl
            refine one_ (i := 5) (N := some 56) #[true, true, true, true, true, true, true, false] rfl rfl (one_of HT_.out (by kernel_rfl)) (by decide) (fun K hK => ?_)
            refine goes_ Try.func21 (by kernel_rfl) rfl #[.pointer (some ⟨w2.heap.size, 0, none⟩), .agg #[.int .i64 t.1, .int .i64 t.kind, .int .u64 t.n, .int .i64 t.i, .int .i64 t.w, .int .u8 (rd t.id 0), .int .u8 (rd t.id 1), .int .u8 (rd t.id 2), .int .u8 (rd t.id 3), .int .u8 (rd t.id 4), .int .u8 (rd t.id 5), .int .u8 (rd t.id 6), .int .u8 (rd t.id 7), .int .i16 t.p.1, .int .i16 t.p.2, .slice A' t.t.length c']] (by rfl) rfl rfl (by (try simp only [List.map_toArray, List.map_cons, List.map_nil]); first | done | rfl) ?_
            refine (putD_all (.pointer (some ⟨w2.heap.size, 0, none⟩)) w7 (Or.inr ⟨w2.heap.size, rfl, HG37.out⟩) t HTG.out.1 A' c' (Kd.C_below HC0.out HB7.out) (by have := HTG.out.2; omega)).mono ?_
            rw [HDE.out]
            rintro e w8 ⟨rfl, hb⟩
            refine ⟨_, rfl, ?_⟩
            have HB8 := Aside0.mk (below_step HB7.out hb)
            have HWS8 := Aside0.mk (HWS7.out.below hb)
            have HGW8 := Aside0.mk ((hb.block _ (blk_lt HGW7.out)).trans HGW7.out)
            have HGQ8 := Aside0.mk ((hb.block _ (blk_lt HGQ7.out)).trans HGQ7.out)
            have HG38 := Aside0.mk ((hb.block _ (blk_lt HG37.out)).trans HG37.out)
            have HGT8 := Aside0.mk ((hb.block _ (blk_lt HGT7.out)).trans HGT7.out)
            clear HB7 HWS7 HGW7 HGQ7 HG37 HGT7 hb
            refine hK.out _ _ ⟨(blk_cell HGW8.out 0).trans rfl, (blk_cell HGW8.out 1).trans rfl, (blk_cell HGW8.out 2).trans rfl, (blk_cell HGW8.out 3).trans rfl, (blk_cell HGT8.out 0).trans rfl, (blk_cell HGT8.out 1).trans rfl, (blk_cell HGT8.out 2).trans rfl, (blk_cell HGT8.out 3).trans rfl, (blk_cell HGT8.out 4).trans rfl, (blk_cell HGT8.out 5).trans rfl, (blk_cell HGT8.out 6).trans rfl, (blk_cell HGT8.out 7).trans rfl, (blk_cell HGT8.out 8).trans rfl, (blk_cell HGT8.out 9).trans rfl, (blk_cell HGT8.out 10).trans rfl, (blk_cell HGT8.out 11).trans rfl, (blk_cell HGT8.out 12).trans rfl, (blk_cell HGT8.out 13).trans rfl, (blk_cell HGT8.out 14).trans rfl, (blk_cell HGT8.out 15).trans rfl⟩ (fun hHeld => ?_)
            clear hK K
            refine norm_ (a' := ?_) ?_ ?_
            rotate_left
            · show Act.put _ (some 56) _ = _
              simp only [Act.put, List.setIfInBounds_toArray, List.set_cons_zero, List.set_cons_succ, i64_w, i32_w]
              rfl
            refine pure_ (i := 7) (N := some 58) (v := ?_) (a' := ?_) #[true, true, true, true, true, true, true, true] rfl rfl (any_of HT_.out (by kernel_rfl)) (fun _ _ _ h => h) (Or.inl ⟨by rfl, ?_⟩) ?_ ?_
            rotate_left
            · intro w'
              go_simp
              with_reducible rfl
            rotate_left
            · simp only [Act.put, List.setIfInBounds_toArray, List.set_cons_zero, List.set_cons_succ, i64_w, i32_w]
              rfl
            refine done_ (done_of HT_.out (by kernel_rfl)) ?_
            clear hHeld HT_ HW_
            have HGQc3 : w8.cell? ⟨w2.heap.size + 1 + 1, 3, none⟩ = some (.slice none 0 0) := (blk_cell HGQ8.out 3).trans rfl
            have qf := blk_frozen HGQ8.out 3
            go_wp2_with ((with_reducible refine gate_builtin (b := .append) (xs := #[.tmp 62, .tmp 63]) rfl ?_); at_builtin; refine app_none rfl (.tmp 62) (.tmp 63) rfl rfl rfl ?_)
            clear qf
            clear HGQc3
            have hch : Chg (· = w2.heap.size + 1 + 1) w8 (w8.setCell ⟨w2.heap.size + 1 + 1, 3, none⟩ (.slice none 0 0)) := Chg.setCell (F := (· = w2.heap.size + 1 + 1)) (Chg.refl _ _) (p := ⟨w2.heap.size + 1 + 1, 3, none⟩) (Or.inl rfl) _
            have HB9 : Aside0 (Below w.heap.size w (w8.setCell ⟨w2.heap.size + 1 + 1, 3, none⟩ (.slice none 0 0))) := ⟨HB8.out.trans (hch.below HB8.out.size (fun i hi => by have e : i = w2.heap.size + 1 + 1 := hi; rw [e]; exact N_QB.out))⟩
            have HWS9 := Aside0.mk (HWS8.out.cell hch HGQ8.out (by decide) N_Q0.out N_Q1.out)
            have HGW9 := Aside0.mk (hch.heap HGW8.out N_WQ.out)
            have HGQ9 := Aside0.mk (blk_put HGQ8.out 3 (.slice none 0 0) rfl)
            have HG39 := Aside0.mk (hch.heap HG38.out N_3Q.out)
            have HGT9 := Aside0.mk (hch.heap HGT8.out N_TQ.out)
            clear hch HB8 HWS8 HGW8 HGQ8 HG38 HGT8
            generalize (w8.setCell ⟨w2.heap.size + 1 + 1, 3, none⟩ (.slice none 0 0)) = w9 at HB9 HWS9 HGW9 HGQ9 HG39 HGT9 ⊢
            have hbd : Below w9.heap.size w9 w9.drew := below_drew1 (Below.refl _ _)
            have HB10 := Aside0.mk (below_step HB9.out hbd)
            have HWS10 := Aside0.mk (HWS9.out.below hbd)
            have HGW10 := Aside0.mk ((hbd.block _ (blk_lt HGW9.out)).trans HGW9.out)
            have HGQ10 := Aside0.mk ((hbd.block _ (blk_lt HGQ9.out)).trans HGQ9.out)
            have HG310 := Aside0.mk ((hbd.block _ (blk_lt HG39.out)).trans HG39.out)
            have HGT10 := Aside0.mk ((hbd.block _ (blk_lt HGT9.out)).trans HGT9.out)
            clear HB9 HWS9 HGW9 HGQ9 HG39 HGT9 hbd
            refine start_ (n := 9) (S := fun w' => w'.cell? ⟨w2.heap.size + 1, 0, none⟩ = some (.pointer (some ⟨w.heap.size, 0, none⟩)) ∧ w'.cell? ⟨w2.heap.size + 1, 1, none⟩ = some (.pointer (some ⟨w1.heap.size, 0, none⟩)) ∧ w'.cell? ⟨w2.heap.size + 1, 2, none⟩ = some (.pointer none) ∧ w'.cell? ⟨w2.heap.size + 1, 3, none⟩ = some (.pointer (some ⟨w2.heap.size, 0, none⟩)) ∧ w'.cell? ⟨w2.heap.size + 1 + 1, 0, none⟩ = some (v0) ∧ w'.cell? ⟨w2.heap.size + 1 + 1, 1, none⟩ = some (v1) ∧ w'.cell? ⟨w2.heap.size + 1 + 1, 2, none⟩ = some (.slice none 0 0) ∧ w'.cell? ⟨w2.heap.size + 1 + 1, 3, none⟩ = some (.slice none 0 0)) (ds := []) #[false, false, false, false, false, false, false, false, false] (by kernel_rfl) rfl rfl ⟨(blk_cell HGW10.out 0).trans rfl, (blk_cell HGW10.out 1).trans rfl, (blk_cell HGW10.out 2).trans rfl, (blk_cell HGW10.out 3).trans rfl, (blk_cell HGQ10.out 0).trans rfl, (blk_cell HGQ10.out 1).trans rfl, (blk_cell HGQ10.out 2).trans rfl, (blk_cell HGQ10.out 3).trans rfl⟩ (fun hHeld => ?_)
            refine with_tabW writes_tab19 writes_bits19 (fun HT_ HW_ => ?_)
            generalize w9.drew = w10 at HB10 HWS10 HGW10 HGQ10 HG310 HGT10 hHeld ⊢
            refine pure_ (i := 0) (N := some 66) (v := ?_) (a' := ?_) #[true, false, false, false, false, false, false, false, false] rfl rfl (any_of HT_.out (by kernel_rfl)) (fun _ _ _ h => h) (Or.inl ⟨by rfl, ?_⟩) ?_ ?_
            rotate_left
            · intro w'
              go_simp
              with_reducible rfl
            rotate_left
            · simp only [Act.put, List.setIfInBounds_toArray, List.set_cons_zero, List.set_cons_succ, i64_w, i32_w]
              rfl
            refine pure_ (i := 1) (N := some 67) (v := ?_) (a' := ?_) #[true, true, false, false, false, false, false, false, false] rfl rfl (any_of HT_.out (by kernel_rfl)) (fun _ _ _ h => h) (Or.inl ⟨by rfl, ?_⟩) ?_ ?_
            rotate_left
            · intro w'
              go_simp
              with_reducible rfl
            rotate_left
            · simp only [Act.put, List.setIfInBounds_toArray, List.set_cons_zero, List.set_cons_succ, i64_w, i32_w]
              rfl
            refine pure_ (i := 2) (N := some 68) (v := ?_) (a' := ?_) #[true, true, true, false, false, false, false, false, false] rfl rfl (any_of HT_.out (by kernel_rfl)) (fun _ _ _ h => h) (Or.inl ⟨by rfl, ?_⟩) ?_ ?_
            rotate_left
            · intro w'
              go_simp
              with_reducible rfl
            rotate_left
            · simp only [Act.put, List.setIfInBounds_toArray, List.set_cons_zero, List.set_cons_succ, i64_w, i32_w]
              rfl
            refine pure_ (i := 4) (N := some 70) (v := ?_) (a' := ?_) #[true, true, true, false, true, false, false, false, false] rfl rfl (any_of HT_.out (by kernel_rfl)) (fun _ _ _ h => h) (Or.inl ⟨by rfl, ?_⟩) ?_ ?_
            rotate_left
            · intro w'
              go_simp
              with_reducible rfl
            rotate_left
            · simp only [Act.put, List.setIfInBounds_toArray, List.set_cons_zero, List.set_cons_succ, i64_w, i32_w]
              rfl
            refine pure_ (i := 5) (N := some 71) (v := ?_) (a' := ?_) #[true, true, true, false, true, true, false, false, false] rfl rfl (any_of HT_.out (by kernel_rfl)) (fun _ _ _ h => h) (Or.inl ⟨by rfl, ?_⟩) ?_ ?_
            rotate_left
            · intro w'
              go_simp
              with_reducible rfl
            rotate_left
            · simp only [Act.put, List.setIfInBounds_toArray, List.set_cons_zero, List.set_cons_succ, i64_w, i32_w]
              rfl
            refine take_ (i := 3) (N := some 69) (v := ?_) (a' := ?_) #[true, true, true, true, true, true, false, false, false] rfl rfl (take_ofW HT_.out HW_.out (by kernel_rfl)) (fun _ _ _ h => h) (Or.inl ⟨by rfl, ?_⟩) hHeld ?_ ?_
            rotate_left
            · rintro w' ⟨s0, s1, s2, s3, s4, s5, s6, s7⟩
              go_simp
              with_reducible rfl
            rotate_left
            · simp only [Act.put, List.setIfInBounds_toArray, List.set_cons_zero, List.set_cons_succ, i64_w, i32_w]
              rfl
            refine take_ (i := 6) (N := some 72) (v := ?_) (a' := ?_) #[true, true, true, true, true, true, true, false, false] rfl rfl (take_ofW HT_.out HW_.out (by kernel_rfl)) (fun _ _ _ h => h) (Or.inl ⟨by rfl, ?_⟩) hHeld ?_ ?_
            rotate_left
            · rintro w' ⟨s0, s1, s2, s3, s4, s5, s6, s7⟩
              go_simp
              with_reducible rfl
            rotate_left
            · simp only [Act.put, List.setIfInBounds_toArray, List.set_cons_zero, List.set_cons_succ, i64_w, i32_w]
              rfl
            refine one_ (i := 7) (N := some 73) #[true, true, true, true, true, true, true, true, false] rfl rfl (one_of HT_.out (by kernel_rfl)) (by decide) (fun K hK => ?_)
            refine goes_ Try.func22 (by kernel_rfl) rfl #[.pointer (some ⟨w2.heap.size, 0, none⟩), .slice none 0 0] (by rfl) rfl rfl (by (try simp only [List.map_toArray, List.map_cons, List.map_nil]); first | done | rfl) ?_
            refine (hand_calls (.pointer (some ⟨w2.heap.size, 0, none⟩)) [] w10 none 0 (Kd.C_nil _ _) (Nat.le_refl _) (by simp) (ask_dead (Or.inr ⟨w2.heap.size, rfl, HG310.out⟩))).mono ?_
            rintro e w11 ⟨rfl, hb⟩
            refine ⟨_, rfl, ?_⟩
            have HB11 := Aside0.mk (below_step HB10.out hb)
            have HWS11 := Aside0.mk (HWS10.out.below hb)
            have HGW11 := Aside0.mk ((hb.block _ (blk_lt HGW10.out)).trans HGW10.out)
            have HGQ11 := Aside0.mk ((hb.block _ (blk_lt HGQ10.out)).trans HGQ10.out)
            have HG311 := Aside0.mk ((hb.block _ (blk_lt HG310.out)).trans HG310.out)
            have HGT11 := Aside0.mk ((hb.block _ (blk_lt HGT10.out)).trans HGT10.out)
            clear HB10 HWS10 HGW10 HGQ10 HG310 HGT10 hb
            refine hK.out _ _ ⟨(blk_cell HGW11.out 0).trans rfl, (blk_cell HGW11.out 1).trans rfl, (blk_cell HGW11.out 2).trans rfl, (blk_cell HGW11.out 3).trans rfl, (blk_cell HGQ11.out 0).trans rfl, (blk_cell HGQ11.out 1).trans rfl, (blk_cell HGQ11.out 2).trans rfl, (blk_cell HGQ11.out 3).trans rfl⟩ (fun hHeld => ?_)
            clear hK K
            refine norm_ (a' := ?_) ?_ ?_
            rotate_left
            · show Act.put _ (some 73) _ = _
              simp only [Act.put, List.setIfInBounds_toArray, List.set_cons_zero, List.set_cons_succ, i64_w, i32_w]
              rfl
            refine pure_ (i := 8) (N := some 74) (v := ?_) (a' := ?_) #[true, true, true, true, true, true, true, true, true] rfl rfl (any_of HT_.out (by kernel_rfl)) (fun _ _ _ h => h) (Or.inl ⟨by rfl, ?_⟩) ?_ ?_
            rotate_left
            · intro w'
              go_simp
              with_reducible rfl
            rotate_left
            · simp only [Act.put, List.setIfInBounds_toArray, List.set_cons_zero, List.set_cons_succ, i64_w, i32_w]
              rfl
            refine done_ (done_of HT_.out (by kernel_rfl)) ?_
            clear hHeld HT_ HW_
            go_wp2
            go_roundg kq
            case measure => omega
            case rel => exact ⟨j + 1, _, _, _, _, _, _, by first | rfl | simp, ⟨by have := HJ.out; omega⟩, ⟨bndw_next HBN.out.1, bndw_next HBN.out.2⟩, HB11, HWS11, HGW11, HGQ11, HG311⟩
          · have HDE : Aside0 (deadE t = 0) := ⟨if_neg hkd⟩
            rw [put_fine hkd]
            have cq : (kindOf t.kind == 1) = false := beq_eq_false_iff_ne.mpr hkd
            clear hkd
            go_wp2_with fail
            clear cq
            have hbd : Below w6.heap.size w6 w6.drew := below_drew1 (Below.refl _ _)
            have HB7 := Aside0.mk (below_step HB6.out hbd)
            have HWS7 := Aside0.mk (HWS6.out.below hbd)
            have HGW7 := Aside0.mk ((hbd.block _ (blk_lt HGW6.out)).trans HGW6.out)
            have HGQ7 := Aside0.mk ((hbd.block _ (blk_lt HGQ6.out)).trans HGQ6.out)
            have HG37 := Aside0.mk ((hbd.block _ (blk_lt HG36.out)).trans HG36.out)
            have HGT7 := Aside0.mk ((hbd.block _ (blk_lt HGT6.out)).trans HGT6.out)
            clear HB6 HWS6 HGW6 HGQ6 HG36 HGT6 hbd
            refine start_ (n := 8) (S := fun w' => w'.cell? ⟨w2.heap.size + 1, 0, none⟩ = some (.pointer (some ⟨w.heap.size, 0, none⟩)) ∧ w'.cell? ⟨w2.heap.size + 1, 1, none⟩ = some (.pointer (some ⟨w1.heap.size, 0, none⟩)) ∧ w'.cell? ⟨w2.heap.size + 1, 2, none⟩ = some (.pointer none) ∧ w'.cell? ⟨w2.heap.size + 1, 3, none⟩ = some (.pointer (some ⟨w2.heap.size, 0, none⟩)) ∧ w'.cell? ⟨wr.heap.size, 0, none⟩ = some (.int .i64 t.1) ∧ w'.cell? ⟨wr.heap.size, 1, none⟩ = some (.int .i64 t.kind) ∧ w'.cell? ⟨wr.heap.size, 2, none⟩ = some (.int .u64 t.n) ∧ w'.cell? ⟨wr.heap.size, 3, none⟩ = some (.int .i64 t.i) ∧ w'.cell? ⟨wr.heap.size, 4, none⟩ = some (.int .i64 t.w) ∧ w'.cell? ⟨wr.heap.size, 5, none⟩ = some (.int .u8 (rd t.id 0)) ∧ w'.cell? ⟨wr.heap.size, 6, none⟩ = some (.int .u8 (rd t.id 1)) ∧ w'.cell? ⟨wr.heap.size, 7, none⟩ = some (.int .u8 (rd t.id 2)) ∧ w'.cell? ⟨wr.heap.size, 8, none⟩ = some (.int .u8 (rd t.id 3)) ∧ w'.cell? ⟨wr.heap.size, 9, none⟩ = some (.int .u8 (rd t.id 4)) ∧ w'.cell? ⟨wr.heap.size, 10, none⟩ = some (.int .u8 (rd t.id 5)) ∧ w'.cell? ⟨wr.heap.size, 11, none⟩ = some (.int .u8 (rd t.id 6)) ∧ w'.cell? ⟨wr.heap.size, 12, none⟩ = some (.int .u8 (rd t.id 7)) ∧ w'.cell? ⟨wr.heap.size, 13, none⟩ = some (.int .i16 t.p.1) ∧ w'.cell? ⟨wr.heap.size, 14, none⟩ = some (.int .i16 t.p.2) ∧ w'.cell? ⟨wr.heap.size, 15, none⟩ = some (.slice A' t.t.length c')) (ds := []) #[false, false, false, false, false, false, false, false] (by kernel_rfl) rfl rfl ⟨(blk_cell HGW7.out 0).trans rfl, (blk_cell HGW7.out 1).trans rfl, (blk_cell HGW7.out 2).trans rfl, (blk_cell HGW7.out 3).trans rfl, (blk_cell HGT7.out 0).trans rfl, (blk_cell HGT7.out 1).trans rfl, (blk_cell HGT7.out 2).trans rfl, (blk_cell HGT7.out 3).trans rfl, (blk_cell HGT7.out 4).trans rfl, (blk_cell HGT7.out 5).trans rfl, (blk_cell HGT7.out 6).trans rfl, (blk_cell HGT7.out 7).trans rfl, (blk_cell HGT7.out 8).trans rfl, (blk_cell HGT7.out 9).trans rfl, (blk_cell HGT7.out 10).trans rfl, (blk_cell HGT7.out 11).trans rfl, (blk_cell HGT7.out 12).trans rfl, (blk_cell HGT7.out 13).trans rfl, (blk_cell HGT7.out 14).trans rfl, (blk_cell HGT7.out 15).trans rfl⟩ (fun hHeld => ?_)
            refine with_tabW writes_tab16 writes_bits16 (fun HT_ HW_ => ?_)
            generalize w6.drew = w7 at HB7 HWS7 HGW7 HGQ7 HG37 HGT7 hHeld ⊢
            refine pure_ (i := 0) (N := some 51) (v := ?_) (a' := ?_) #[true, false, false, false, false, false, false, false] rfl rfl (any_of HT_.out (by kernel_rfl)) (fun _ _ _ h => h) (Or.inl ⟨by rfl, ?_⟩) ?_ ?_
            rotate_left
            · intro w'
              go_simp
              with_reducible rfl
            rotate_left
            · simp only [Act.put, List.setIfInBounds_toArray, List.set_cons_zero, List.set_cons_succ, i64_w, i32_w]
              rfl
            refine pure_ (i := 1) (N := some 52) (v := ?_) (a' := ?_) #[true, true, false, false, false, false, false, false] rfl rfl (any_of HT_.out (by kernel_rfl)) (fun _ _ _ h => h) (Or.inl ⟨by rfl, ?_⟩) ?_ ?_
            rotate_left
            · intro w'
              go_simp
              with_reducible rfl
            rotate_left
            · simp only [Act.put, List.setIfInBounds_toArray, List.set_cons_zero, List.set_cons_succ, i64_w, i32_w]
              rfl
            refine pure_ (i := 2) (N := some 53) (v := ?_) (a' := ?_) #[true, true, true, false, false, false, false, false] rfl rfl (any_of HT_.out (by kernel_rfl)) (fun _ _ _ h => h) (Or.inl ⟨by rfl, ?_⟩) ?_ ?_
            rotate_left
            · intro w'
              go_simp
              with_reducible rfl
            rotate_left
            · simp only [Act.put, List.setIfInBounds_toArray, List.set_cons_zero, List.set_cons_succ, i64_w, i32_w]
              rfl
            refine take_ (i := 3) (N := some 54) (v := ?_) (a' := ?_) #[true, true, true, true, false, false, false, false] rfl rfl (take_ofW HT_.out HW_.out (by kernel_rfl)) (fun _ _ _ h => h) (Or.inl ⟨by rfl, ?_⟩) hHeld ?_ ?_
            rotate_left
            · rintro w' ⟨s0, s1, s2, s3, s4, s5, s6, s7, s8, s9, s10, s11, s12, s13, s14, s15, s16, s17, s18, s19⟩
              go_simp
              with_reducible rfl
            rotate_left
            · simp only [Act.put, List.setIfInBounds_toArray, List.set_cons_zero, List.set_cons_succ, i64_w, i32_w]
              rfl
            refine take_ (i := 4) (N := some 55) (v := ?_) (a' := ?_) #[true, true, true, true, true, false, false, false] rfl rfl (take_ofW HT_.out HW_.out (by kernel_rfl)) (fun _ _ _ h => h) (Or.inl ⟨by rfl, ?_⟩) hHeld ?_ ?_
            rotate_left
            · rintro w' ⟨s0, s1, s2, s3, s4, s5, s6, s7, s8, s9, s10, s11, s12, s13, s14, s15, s16, s17, s18, s19⟩
              go_simp
              with_reducible rfl
            rotate_left
            · simp only [Act.put, List.setIfInBounds_toArray, List.set_cons_zero, List.set_cons_succ, i64_w, i32_w]
              rfl
            refine pure_ (i := 6) (N := some 57) (v := ?_) (a' := ?_) #[true, true, true, true, true, false, true, false] rfl rfl (any_of HT_.out (by kernel_rfl)) (fun _ _ _ h => h) (Or.inl ⟨by rfl, ?_⟩) ?_ ?_
            rotate_left
            · intro w'
              go_simp
              with_reducible rfl
            rotate_left
            · simp only [Act.put, List.setIfInBounds_toArray, List.set_cons_zero, List.set_cons_succ, i64_w, i32_w]
              rfl
            refine one_ (i := 5) (N := some 56) #[true, true, true, true, true, true, true, false] rfl rfl (one_of HT_.out (by kernel_rfl)) (by decide) (fun K hK => ?_)
            refine goes_ Try.func21 (by kernel_rfl) rfl #[.pointer (some ⟨w2.heap.size, 0, none⟩), .agg #[.int .i64 t.1, .int .i64 t.kind, .int .u64 t.n, .int .i64 t.i, .int .i64 t.w, .int .u8 (rd t.id 0), .int .u8 (rd t.id 1), .int .u8 (rd t.id 2), .int .u8 (rd t.id 3), .int .u8 (rd t.id 4), .int .u8 (rd t.id 5), .int .u8 (rd t.id 6), .int .u8 (rd t.id 7), .int .i16 t.p.1, .int .i16 t.p.2, .slice A' t.t.length c']] (by rfl) rfl rfl (by (try simp only [List.map_toArray, List.map_cons, List.map_nil]); first | done | rfl) ?_
            refine (putD_all (.pointer (some ⟨w2.heap.size, 0, none⟩)) w7 (Or.inr ⟨w2.heap.size, rfl, HG37.out⟩) t HTG.out.1 A' c' (Kd.C_below HC0.out HB7.out) (by have := HTG.out.2; omega)).mono ?_
            rw [HDE.out]
            rintro e w8 ⟨rfl, hb⟩
            refine ⟨_, rfl, ?_⟩
            have HB8 := Aside0.mk (below_step HB7.out hb)
            have HWS8 := Aside0.mk (HWS7.out.below hb)
            have HGW8 := Aside0.mk ((hb.block _ (blk_lt HGW7.out)).trans HGW7.out)
            have HGQ8 := Aside0.mk ((hb.block _ (blk_lt HGQ7.out)).trans HGQ7.out)
            have HG38 := Aside0.mk ((hb.block _ (blk_lt HG37.out)).trans HG37.out)
            have HGT8 := Aside0.mk ((hb.block _ (blk_lt HGT7.out)).trans HGT7.out)
            clear HB7 HWS7 HGW7 HGQ7 HG37 HGT7 hb
            refine hK.out _ _ ⟨(blk_cell HGW8.out 0).trans rfl, (blk_cell HGW8.out 1).trans rfl, (blk_cell HGW8.out 2).trans rfl, (blk_cell HGW8.out 3).trans rfl, (blk_cell HGT8.out 0).trans rfl, (blk_cell HGT8.out 1).trans rfl, (blk_cell HGT8.out 2).trans rfl, (blk_cell HGT8.out 3).trans rfl, (blk_cell HGT8.out 4).trans rfl, (blk_cell HGT8.out 5).trans rfl, (blk_cell HGT8.out 6).trans rfl, (blk_cell HGT8.out 7).trans rfl, (blk_cell HGT8.out 8).trans rfl, (blk_cell HGT8.out 9).trans rfl, (blk_cell HGT8.out 10).trans rfl, (blk_cell HGT8.out 11).trans rfl, (blk_cell HGT8.out 12).trans rfl, (blk_cell HGT8.out 13).trans rfl, (blk_cell HGT8.out 14).trans rfl, (blk_cell HGT8.out 15).trans rfl⟩ (fun hHeld => ?_)
            clear hK K
            refine norm_ (a' := ?_) ?_ ?_
            rotate_left
            · show Act.put _ (some 56) _ = _
              simp only [Act.put, List.setIfInBounds_toArray, List.set_cons_zero, List.set_cons_succ, i64_w, i32_w]
              rfl
            refine pure_ (i := 7) (N := some 58) (v := ?_) (a' := ?_) #[true, true, true, true, true, true, true, true] rfl rfl (any_of HT_.out (by kernel_rfl)) (fun _ _ _ h => h) (Or.inl ⟨by rfl, ?_⟩) ?_ ?_
            rotate_left
            · intro w'
              go_simp
              with_reducible rfl
            rotate_left
            · simp only [Act.put, List.setIfInBounds_toArray, List.set_cons_zero, List.set_cons_succ, i64_w, i32_w]
              rfl
            refine done_ (done_of HT_.out (by kernel_rfl)) ?_
            clear hHeld HT_ HW_
            have HGQc3 : w8.cell? ⟨w2.heap.size + 1 + 1, 3, none⟩ = some (.slice none 0 0) := (blk_cell HGQ8.out 3).trans rfl
            have qf := blk_frozen HGQ8.out 3
            go_wp2_with ((with_reducible refine gate_builtin (b := .append) (xs := #[.tmp 62, .tmp 63]) rfl ?_); at_builtin; refine app_none rfl (.tmp 62) (.tmp 63) rfl rfl rfl ?_)
            clear qf
            clear HGQc3
            have hch : Chg (· = w2.heap.size + 1 + 1) w8 (w8.setCell ⟨w2.heap.size + 1 + 1, 3, none⟩ (.slice none 0 0)) := Chg.setCell (F := (· = w2.heap.size + 1 + 1)) (Chg.refl _ _) (p := ⟨w2.heap.size + 1 + 1, 3, none⟩) (Or.inl rfl) _
            have HB9 : Aside0 (Below w.heap.size w (w8.setCell ⟨w2.heap.size + 1 + 1, 3, none⟩ (.slice none 0 0))) := ⟨HB8.out.trans (hch.below HB8.out.size (fun i hi => by have e : i = w2.heap.size + 1 + 1 := hi; rw [e]; exact N_QB.out))⟩
            have HWS9 := Aside0.mk (HWS8.out.cell hch HGQ8.out (by decide) N_Q0.out N_Q1.out)
            have HGW9 := Aside0.mk (hch.heap HGW8.out N_WQ.out)
            have HGQ9 := Aside0.mk (blk_put HGQ8.out 3 (.slice none 0 0) rfl)
            have HG39 := Aside0.mk (hch.heap HG38.out N_3Q.out)
            have HGT9 := Aside0.mk (hch.heap HGT8.out N_TQ.out)
            clear hch HB8 HWS8 HGW8 HGQ8 HG38 HGT8
            generalize (w8.setCell ⟨w2.heap.size + 1 + 1, 3, none⟩ (.slice none 0 0)) = w9 at HB9 HWS9 HGW9 HGQ9 HG39 HGT9 ⊢
            have hbd : Below w9.heap.size w9 w9.drew := below_drew1 (Below.refl _ _)
            have HB10 := Aside0.mk (below_step HB9.out hbd)
            have HWS10 := Aside0.mk (HWS9.out.below hbd)
            have HGW10 := Aside0.mk ((hbd.block _ (blk_lt HGW9.out)).trans HGW9.out)
            have HGQ10 := Aside0.mk ((hbd.block _ (blk_lt HGQ9.out)).trans HGQ9.out)
            have HG310 := Aside0.mk ((hbd.block _ (blk_lt HG39.out)).trans HG39.out)
            have HGT10 := Aside0.mk ((hbd.block _ (blk_lt HGT9.out)).trans HGT9.out)
            clear HB9 HWS9 HGW9 HGQ9 HG39 HGT9 hbd
            refine start_ (n := 9) (S := fun w' => w'.cell? ⟨w2.heap.size + 1, 0, none⟩ = some (.pointer (some ⟨w.heap.size, 0, none⟩)) ∧ w'.cell? ⟨w2.heap.size + 1, 1, none⟩ = some (.pointer (some ⟨w1.heap.size, 0, none⟩)) ∧ w'.cell? ⟨w2.heap.size + 1, 2, none⟩ = some (.pointer none) ∧ w'.cell? ⟨w2.heap.size + 1, 3, none⟩ = some (.pointer (some ⟨w2.heap.size, 0, none⟩)) ∧ w'.cell? ⟨w2.heap.size + 1 + 1, 0, none⟩ = some (v0) ∧ w'.cell? ⟨w2.heap.size + 1 + 1, 1, none⟩ = some (v1) ∧ w'.cell? ⟨w2.heap.size + 1 + 1, 2, none⟩ = some (.slice none 0 0) ∧ w'.cell? ⟨w2.heap.size + 1 + 1, 3, none⟩ = some (.slice none 0 0)) (ds := []) #[false, false, false, false, false, false, false, false, false] (by kernel_rfl) rfl rfl ⟨(blk_cell HGW10.out 0).trans rfl, (blk_cell HGW10.out 1).trans rfl, (blk_cell HGW10.out 2).trans rfl, (blk_cell HGW10.out 3).trans rfl, (blk_cell HGQ10.out 0).trans rfl, (blk_cell HGQ10.out 1).trans rfl, (blk_cell HGQ10.out 2).trans rfl, (blk_cell HGQ10.out 3).trans rfl⟩ (fun hHeld => ?_)
            refine with_tabW writes_tab19 writes_bits19 (fun HT_ HW_ => ?_)
            generalize w9.drew = w10 at HB10 HWS10 HGW10 HGQ10 HG310 HGT10 hHeld ⊢
            refine pure_ (i := 0) (N := some 66) (v := ?_) (a' := ?_) #[true, false, false, false, false, false, false, false, false] rfl rfl (any_of HT_.out (by kernel_rfl)) (fun _ _ _ h => h) (Or.inl ⟨by rfl, ?_⟩) ?_ ?_
            rotate_left
            · intro w'
              go_simp
              with_reducible rfl
            rotate_left
            · simp only [Act.put, List.setIfInBounds_toArray, List.set_cons_zero, List.set_cons_succ, i64_w, i32_w]
              rfl
            refine pure_ (i := 1) (N := some 67) (v := ?_) (a' := ?_) #[true, true, false, false, false, false, false, false, false] rfl rfl (any_of HT_.out (by kernel_rfl)) (fun _ _ _ h => h) (Or.inl ⟨by rfl, ?_⟩) ?_ ?_
            rotate_left
            · intro w'
              go_simp
              with_reducible rfl
            rotate_left
            · simp only [Act.put, List.setIfInBounds_toArray, List.set_cons_zero, List.set_cons_succ, i64_w, i32_w]
              rfl
            refine pure_ (i := 2) (N := some 68) (v := ?_) (a' := ?_) #[true, true, true, false, false, false, false, false, false] rfl rfl (any_of HT_.out (by kernel_rfl)) (fun _ _ _ h => h) (Or.inl ⟨by rfl, ?_⟩) ?_ ?_
            rotate_left
            · intro w'
              go_simp
              with_reducible rfl
            rotate_left
            · simp only [Act.put, List.setIfInBounds_toArray, List.set_cons_zero, List.set_cons_succ, i64_w, i32_w]
              rfl
            refine pure_ (i := 4) (N := some 70) (v := ?_) (a' := ?_) #[true, true, true, false, true, false, false, false, false] rfl rfl (any_of HT_.out (by kernel_rfl)) (fun _ _ _ h => h) (Or.inl ⟨by rfl, ?_⟩) ?_ ?_
            rotate_left
            · intro w'
              go_simp
              with_reducible rfl
            rotate_left
            · simp only [Act.put, List.setIfInBounds_toArray, List.set_cons_zero, List.set_cons_succ, i64_w, i32_w]
              rfl
            refine pure_ (i := 5) (N := some 71) (v := ?_) (a' := ?_) #[true, true, true, false, true, true, false, false, false] rfl rfl (any_of HT_.out (by kernel_rfl)) (fun _ _ _ h => h) (Or.inl ⟨by rfl, ?_⟩) ?_ ?_
            rotate_left
            · intro w'
              go_simp
              with_reducible rfl
            rotate_left
            · simp only [Act.put, List.setIfInBounds_toArray, List.set_cons_zero, List.set_cons_succ, i64_w, i32_w]
              rfl
            refine take_ (i := 3) (N := some 69) (v := ?_) (a' := ?_) #[true, true, true, true, true, true, false, false, false] rfl rfl (take_ofW HT_.out HW_.out (by kernel_rfl)) (fun _ _ _ h => h) (Or.inl ⟨by rfl, ?_⟩) hHeld ?_ ?_
            rotate_left
            · rintro w' ⟨s0, s1, s2, s3, s4, s5, s6, s7⟩
              go_simp
              with_reducible rfl
            rotate_left
            · simp only [Act.put, List.setIfInBounds_toArray, List.set_cons_zero, List.set_cons_succ, i64_w, i32_w]
              rfl
            refine take_ (i := 6) (N := some 72) (v := ?_) (a' := ?_) #[true, true, true, true, true, true, true, false, false] rfl rfl (take_ofW HT_.out HW_.out (by kernel_rfl)) (fun _ _ _ h => h) (Or.inl ⟨by rfl, ?_⟩) hHeld ?_ ?_
            rotate_left
            · rintro w' ⟨s0, s1, s2, s3, s4, s5, s6, s7⟩
              go_simp
              with_reducible rfl
            rotate_left
            · simp only [Act.put, List.setIfInBounds_toArray, List.set_cons_zero, List.set_cons_succ, i64_w, i32_w]
              rfl
            refine one_ (i := 7) (N := some 73) #[true, true, true, true, true, true, true, true, false] rfl rfl (one_of HT_.out (by kernel_rfl)) (by decide) (fun K hK => ?_)
            refine goes_ Try.func22 (by kernel_rfl) rfl #[.pointer (some ⟨w2.heap.size, 0, none⟩), .slice none 0 0] (by rfl) rfl rfl (by (try simp only [List.map_toArray, List.map_cons, List.map_nil]); first | done | rfl) ?_
            refine (hand_calls (.pointer (some ⟨w2.heap.size, 0, none⟩)) [] w10 none 0 (Kd.C_nil _ _) (Nat.le_refl _) (by simp) (ask_dead (Or.inr ⟨w2.heap.size, rfl, HG310.out⟩))).mono ?_
            rintro e w11 ⟨rfl, hb⟩
            refine ⟨_, rfl, ?_⟩
            have HB11 := Aside0.mk (below_step HB10.out hb)
            have HWS11 := Aside0.mk (HWS10.out.below hb)
            have HGW11 := Aside0.mk ((hb.block _ (blk_lt HGW10.out)).trans HGW10.out)
            have HGQ11 := Aside0.mk ((hb.block _ (blk_lt HGQ10.out)).trans HGQ10.out)
            have HG311 := Aside0.mk ((hb.block _ (blk_lt HG310.out)).trans HG310.out)
            have HGT11 := Aside0.mk ((hb.block _ (blk_lt HGT10.out)).trans HGT10.out)
            clear HB10 HWS10 HGW10 HGQ10 HG310 HGT10 hb
            refine hK.out _ _ ⟨(blk_cell HGW11.out 0).trans rfl, (blk_cell HGW11.out 1).trans rfl, (blk_cell HGW11.out 2).trans rfl, (blk_cell HGW11.out 3).trans rfl, (blk_cell HGQ11.out 0).trans rfl, (blk_cell HGQ11.out 1).trans rfl, (blk_cell HGQ11.out 2).trans rfl, (blk_cell HGQ11.out 3).trans rfl⟩ (fun hHeld => ?_)
            clear hK K
            refine norm_ (a' := ?_) ?_ ?_
            rotate_left
            · show Act.put _ (some 73) _ = _
              simp only [Act.put, List.setIfInBounds_toArray, List.set_cons_zero, List.set_cons_succ, i64_w, i32_w]
              rfl
            refine pure_ (i := 8) (N := some 74) (v := ?_) (a' := ?_) #[true, true, true, true, true, true, true, true, true] rfl rfl (any_of HT_.out (by kernel_rfl)) (fun _ _ _ h => h) (Or.inl ⟨by rfl, ?_⟩) ?_ ?_
            rotate_left
            · intro w'
              go_simp
              with_reducible rfl
            rotate_left
            · simp only [Act.put, List.setIfInBounds_toArray, List.set_cons_zero, List.set_cons_succ, i64_w, i32_w]
              rfl
            refine done_ (done_of HT_.out (by kernel_rfl)) ?_
            clear hHeld HT_ HW_
            go_wp2
            go_roundg kq
            case measure => omega
            case rel => exact ⟨j + 1, _, _, _, _, _, _, by first | rfl | simp, ⟨by have := HJ.out; omega⟩, ⟨bndw_next HBN.out.1, bndw_next HBN.out.2⟩, HB11, HWS11, HGW11, HGQ11, HG311⟩
end Go.Proofs.Ytjijmikpoenbcaa.Codec
