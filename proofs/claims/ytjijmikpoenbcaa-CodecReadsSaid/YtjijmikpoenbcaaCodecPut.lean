/- What put does with a thing of each kind. Written by wip/gen/put.py. -/
import Derived.Test.YtjijmikpoenbcaaCodecTook
namespace Go.Proofs.Ytjijmikpoenbcaa.Codec
open Go.RowKit Go.Proofs.YtjijmikpoenbcaaW.PrintWords Go.Proofs.YtjijmikpoenbcaaW.PrintLast Go.Proofs.YtjijmikpoenbcaaW.PrintMore
set_option linter.unusedVariables false
set_option maxHeartbeats 8000000 in
set_option maxRecDepth 100000 in
theorem put_byte (base g : Nat) (v : Value) (l : List Int) (w : World) (hw : WAt w base g v l) (hb : base ≤ w.heap.size) (hlen : l.length + 1 ≤ 140737488355328) (who kind n i wd b0 b1 b2 b3 b4 b5 b6 b7 x y : Int) (A : Option Addr) (m c : Nat)   (u : Value) (hu : u = .slice A m c) (hk : kindOf kind = 0) :
    Calls Try.prog 21 #[.pointer (some ⟨g, 0, none⟩), .agg (thing who kind n i wd b0 b1 b2 b3 b4 b5 b6 b7 x y u)] w fun e w' => e = .returned (.int .i64 0) ∧ Wrote base g v (l ++ [n % 256]) w w' := by
  subst hu
  have HW := Aside0.mk hw
  have HBASE := Aside0.mk hb
  have HLEN := Aside0.mk hlen
  have HK := Aside0.mk hk
  clear hw hb hlen hk
  unfold thing
  go_enter Try.func21, Try.ntmps21
  go_wp2_with fail
  refine (round7_calls kind _).mono ?_
  rintro e w1 ⟨rfl, rfl⟩
  rw [HK.out]
  have HCH : Aside0 (Chg (fun _ => False) w (w.alloc (.cells #[Value.int .i64 who, Value.int .i64 kind, Value.int .u64 n, Value.int .i64 i, Value.int .i64 wd, Value.int .u8 b0, Value.int .u8 b1, Value.int .u8 b2, Value.int .u8 b3, Value.int .u8 b4, Value.int .u8 b5, Value.int .u8 b6, Value.int .u8 b7, Value.int .i16 x, Value.int .i16 y, .slice A m c] 46))) := ⟨Chg.alloc (Chg.refl _ _) _⟩
  have HKW := Aside0.mk (HW.out.keep HCH.out (fun _ _ h => h))
  have HB1 : Aside0 (base ≤ (w.alloc (.cells #[Value.int .i64 who, Value.int .i64 kind, Value.int .u64 n, Value.int .i64 i, Value.int .i64 wd, Value.int .u8 b0, Value.int .u8 b1, Value.int .u8 b2, Value.int .u8 b3, Value.int .u8 b4, Value.int .u8 b5, Value.int .u8 b6, Value.int .u8 b7, Value.int .i16 x, Value.int .i16 y, .slice A m c] 46)).heap.size) := ⟨Nat.le_trans HBASE.out HCH.out.size⟩
  go_wp2_with fail
  refine (wByte_calls base g v l (n % 256) _ HKW.out HB1.out HLEN.out).mono ?_
  rintro e w2 ⟨rfl, h⟩
  have H := Aside0.mk (Wrote.after HCH.out h)
  clear h
  go_wp2
  go_ret
  exact ⟨rfl, H.out⟩
set_option maxHeartbeats 8000000 in
set_option maxRecDepth 100000 in
theorem put_fixed (base g : Nat) (v : Value) (l : List Int) (w : World) (hw : WAt w base g v l) (hb : base ≤ w.heap.size) (hlen : l.length + 11 ≤ 140737488355328) (who kind n i wd b0 b1 b2 b3 b4 b5 b6 b7 x y : Int) (A : Option Addr) (m c : Nat) (nn : Nat) (hnn : nn < 18446744073709551616) (hn : n = nn) (hwd : -9223372036854775808 ≤ wd ∧ wd ≤ 9223372036854775807) (hwide : wide nn wd = false) (u : Value) (hu : u = .slice A m c) (hk : kindOf kind = 1) :
    Calls Try.prog 21 #[.pointer (some ⟨g, 0, none⟩), .agg (thing who kind n i wd b0 b1 b2 b3 b4 b5 b6 b7 x y u)] w fun e w' => e = .returned (.int .i64 0) ∧ Wrote base g v (l ++ fixedB wd.toNat nn) w w' := by
  subst hu
  subst hn
  have HW := Aside0.mk hw
  have HBASE := Aside0.mk hb
  have HLEN := Aside0.mk hlen
  have HK := Aside0.mk hk
  have HNN := Aside0.mk hnn
  have HWD := Aside0.mk hwd
  have HWIDE := Aside0.mk hwide
  clear hw hb hlen hk hnn hwd hwide
  unfold thing
  go_enter Try.func21, Try.ntmps21
  go_wp2_with fail
  refine (round7_calls kind _).mono ?_
  rintro e w1 ⟨rfl, rfl⟩
  rw [HK.out]
  have HCH : Aside0 (Chg (fun _ => False) w (w.alloc (.cells #[Value.int .i64 who, Value.int .i64 kind, Value.int .u64 (nn : Int), Value.int .i64 i, Value.int .i64 wd, Value.int .u8 b0, Value.int .u8 b1, Value.int .u8 b2, Value.int .u8 b3, Value.int .u8 b4, Value.int .u8 b5, Value.int .u8 b6, Value.int .u8 b7, Value.int .i16 x, Value.int .i16 y, .slice A m c] 46))) := ⟨Chg.alloc (Chg.refl _ _) _⟩
  have HKW := Aside0.mk (HW.out.keep HCH.out (fun _ _ h => h))
  have HB1 : Aside0 (base ≤ (w.alloc (.cells #[Value.int .i64 who, Value.int .i64 kind, Value.int .u64 (nn : Int), Value.int .i64 i, Value.int .i64 wd, Value.int .u8 b0, Value.int .u8 b1, Value.int .u8 b2, Value.int .u8 b3, Value.int .u8 b4, Value.int .u8 b5, Value.int .u8 b6, Value.int .u8 b7, Value.int .i16 x, Value.int .i16 y, .slice A m c] 46)).heap.size) := ⟨Nat.le_trans HBASE.out HCH.out.size⟩
  go_wp2_with fail
  refine (wFixed_calls base g v l nn wd _ HKW.out HB1.out HNN.out HWD.out HWIDE.out HLEN.out).mono ?_
  rintro e w2 ⟨rfl, h⟩
  have H := Aside0.mk (Wrote.after HCH.out h)
  clear h
  go_wp2
  go_ret
  exact ⟨rfl, H.out⟩
set_option maxHeartbeats 8000000 in
set_option maxRecDepth 100000 in
theorem put_wide (base g : Nat) (v : Value) (l : List Int) (w : World) (hw : WAt w base g v l) (hb : base ≤ w.heap.size) (hlen : l.length ≤ 140737488355328) (who kind n i wd b0 b1 b2 b3 b4 b5 b6 b7 x y : Int) (A : Option Addr) (m c : Nat) (nn : Nat) (hnn : nn < 18446744073709551616) (hn : n = nn) (hwide : wide nn wd = true) (u : Value) (hu : u = .slice A m c) (hk : kindOf kind = 1) :
    Calls Try.prog 21 #[.pointer (some ⟨g, 0, none⟩), .agg (thing who kind n i wd b0 b1 b2 b3 b4 b5 b6 b7 x y u)] w fun e w' => e = .returned (.int .i64 1) ∧ Wrote base g v (l ++ []) w w' := by
  subst hu
  subst hn
  have HW := Aside0.mk hw
  have HBASE := Aside0.mk hb
  have HLEN := Aside0.mk hlen
  have HK := Aside0.mk hk
  have HNN := Aside0.mk hnn
  have HWIDE := Aside0.mk hwide
  clear hw hb hlen hk hnn hwide
  unfold thing
  go_enter Try.func21, Try.ntmps21
  go_wp2_with fail
  refine (round7_calls kind _).mono ?_
  rintro e w1 ⟨rfl, rfl⟩
  rw [HK.out]
  have HCH : Aside0 (Chg (fun _ => False) w (w.alloc (.cells #[Value.int .i64 who, Value.int .i64 kind, Value.int .u64 (nn : Int), Value.int .i64 i, Value.int .i64 wd, Value.int .u8 b0, Value.int .u8 b1, Value.int .u8 b2, Value.int .u8 b3, Value.int .u8 b4, Value.int .u8 b5, Value.int .u8 b6, Value.int .u8 b7, Value.int .i16 x, Value.int .i16 y, .slice A m c] 46))) := ⟨Chg.alloc (Chg.refl _ _) _⟩
  have HKW := Aside0.mk (HW.out.keep HCH.out (fun _ _ h => h))
  have HB1 : Aside0 (base ≤ (w.alloc (.cells #[Value.int .i64 who, Value.int .i64 kind, Value.int .u64 (nn : Int), Value.int .i64 i, Value.int .i64 wd, Value.int .u8 b0, Value.int .u8 b1, Value.int .u8 b2, Value.int .u8 b3, Value.int .u8 b4, Value.int .u8 b5, Value.int .u8 b6, Value.int .u8 b7, Value.int .i16 x, Value.int .i16 y, .slice A m c] 46)).heap.size) := ⟨Nat.le_trans HBASE.out HCH.out.size⟩
  go_wp2_with fail
  refine (wFixed_wide base g v l nn wd _ HKW.out HNN.out HWIDE.out).mono ?_
  rintro e w2 ⟨rfl, h⟩
  subst h
  have H : Aside0 (Wrote base g v (l ++ []) w (w.alloc (.cells #[Value.int .i64 who, Value.int .i64 kind, Value.int .u64 (nn : Int), Value.int .i64 i, Value.int .i64 wd, Value.int .u8 b0, Value.int .u8 b1, Value.int .u8 b2, Value.int .u8 b3, Value.int .u8 b4, Value.int .u8 b5, Value.int .u8 b6, Value.int .u8 b7, Value.int .i16 x, Value.int .i16 y, .slice A m c] 46))) := ⟨by rw [List.append_nil]; exact ⟨v, HKW.out, Moved.refl _ _, HCH.out.mono (fun _ h => h.elim)⟩⟩
  go_wp2
  go_ret
  exact ⟨rfl, H.out⟩
set_option maxHeartbeats 8000000 in
set_option maxRecDepth 100000 in
theorem put_var (base g : Nat) (v : Value) (l : List Int) (w : World) (hw : WAt w base g v l) (hb : base ≤ w.heap.size) (hlen : l.length + 11 ≤ 140737488355328) (who kind n i wd b0 b1 b2 b3 b4 b5 b6 b7 x y : Int) (A : Option Addr) (m c : Nat) (nn : Nat) (hnn : nn < 18446744073709551616) (hn : n = nn)  (u : Value) (hu : u = .slice A m c) (hk : kindOf kind = 2) :
    Calls Try.prog 21 #[.pointer (some ⟨g, 0, none⟩), .agg (thing who kind n i wd b0 b1 b2 b3 b4 b5 b6 b7 x y u)] w fun e w' => e = .returned (.int .i64 0) ∧ Wrote base g v (l ++ varB nn) w w' := by
  subst hu
  subst hn
  have HW := Aside0.mk hw
  have HBASE := Aside0.mk hb
  have HLEN := Aside0.mk hlen
  have HK := Aside0.mk hk
  have HNN := Aside0.mk hnn
  clear hw hb hlen hk hnn
  unfold thing
  go_enter Try.func21, Try.ntmps21
  go_wp2_with fail
  refine (round7_calls kind _).mono ?_
  rintro e w1 ⟨rfl, rfl⟩
  rw [HK.out]
  have HCH : Aside0 (Chg (fun _ => False) w (w.alloc (.cells #[Value.int .i64 who, Value.int .i64 kind, Value.int .u64 (nn : Int), Value.int .i64 i, Value.int .i64 wd, Value.int .u8 b0, Value.int .u8 b1, Value.int .u8 b2, Value.int .u8 b3, Value.int .u8 b4, Value.int .u8 b5, Value.int .u8 b6, Value.int .u8 b7, Value.int .i16 x, Value.int .i16 y, .slice A m c] 46))) := ⟨Chg.alloc (Chg.refl _ _) _⟩
  have HKW := Aside0.mk (HW.out.keep HCH.out (fun _ _ h => h))
  have HB1 : Aside0 (base ≤ (w.alloc (.cells #[Value.int .i64 who, Value.int .i64 kind, Value.int .u64 (nn : Int), Value.int .i64 i, Value.int .i64 wd, Value.int .u8 b0, Value.int .u8 b1, Value.int .u8 b2, Value.int .u8 b3, Value.int .u8 b4, Value.int .u8 b5, Value.int .u8 b6, Value.int .u8 b7, Value.int .i16 x, Value.int .i16 y, .slice A m c] 46)).heap.size) := ⟨Nat.le_trans HBASE.out HCH.out.size⟩
  go_wp2_with fail
  refine (wVar_calls base g v l nn _ HKW.out HB1.out HNN.out HLEN.out).mono ?_
  rintro e w2 ⟨rfl, h⟩
  have H := Aside0.mk (Wrote.after HCH.out h)
  clear h
  go_wp2
  go_ret
  exact ⟨rfl, H.out⟩
set_option maxHeartbeats 8000000 in
set_option maxRecDepth 100000 in
theorem put_int (base g : Nat) (v : Value) (l : List Int) (w : World) (hw : WAt w base g v l) (hb : base ≤ w.heap.size) (hlen : l.length + 11 ≤ 140737488355328) (who kind n i wd b0 b1 b2 b3 b4 b5 b6 b7 x y : Int) (A : Option Addr) (m c : Nat)  (hi : -9223372036854775808 ≤ i ∧ i ≤ 9223372036854775807) (u : Value) (hu : u = .slice A m c) (hk : kindOf kind = 3) :
    Calls Try.prog 21 #[.pointer (some ⟨g, 0, none⟩), .agg (thing who kind n i wd b0 b1 b2 b3 b4 b5 b6 b7 x y u)] w fun e w' => e = .returned (.int .i64 0) ∧ Wrote base g v (l ++ varB (turned i)) w w' := by
  subst hu
  have HW := Aside0.mk hw
  have HBASE := Aside0.mk hb
  have HLEN := Aside0.mk hlen
  have HK := Aside0.mk hk
  have HI := Aside0.mk hi
  clear hw hb hlen hk hi
  unfold thing
  go_enter Try.func21, Try.ntmps21
  go_wp2_with fail
  refine (round7_calls kind _).mono ?_
  rintro e w1 ⟨rfl, rfl⟩
  rw [HK.out]
  have HCH : Aside0 (Chg (fun _ => False) w (w.alloc (.cells #[Value.int .i64 who, Value.int .i64 kind, Value.int .u64 n, Value.int .i64 i, Value.int .i64 wd, Value.int .u8 b0, Value.int .u8 b1, Value.int .u8 b2, Value.int .u8 b3, Value.int .u8 b4, Value.int .u8 b5, Value.int .u8 b6, Value.int .u8 b7, Value.int .i16 x, Value.int .i16 y, .slice A m c] 46))) := ⟨Chg.alloc (Chg.refl _ _) _⟩
  have HKW := Aside0.mk (HW.out.keep HCH.out (fun _ _ h => h))
  have HB1 : Aside0 (base ≤ (w.alloc (.cells #[Value.int .i64 who, Value.int .i64 kind, Value.int .u64 n, Value.int .i64 i, Value.int .i64 wd, Value.int .u8 b0, Value.int .u8 b1, Value.int .u8 b2, Value.int .u8 b3, Value.int .u8 b4, Value.int .u8 b5, Value.int .u8 b6, Value.int .u8 b7, Value.int .i16 x, Value.int .i16 y, .slice A m c] 46)).heap.size) := ⟨Nat.le_trans HBASE.out HCH.out.size⟩
  go_wp2_with fail
  refine (wInt_calls base g v l i _ HKW.out HB1.out HI.out HLEN.out).mono ?_
  rintro e w2 ⟨rfl, h⟩
  have H := Aside0.mk (Wrote.after HCH.out h)
  clear h
  go_wp2
  go_ret
  exact ⟨rfl, H.out⟩
set_option maxHeartbeats 8000000 in
set_option maxRecDepth 100000 in
theorem put_id (base g : Nat) (v : Value) (l : List Int) (w : World) (hw : WAt w base g v l) (hb : base ≤ w.heap.size) (hlen : l.length + 8 ≤ 140737488355328) (who kind n i wd b0 b1 b2 b3 b4 b5 b6 b7 x y : Int) (A : Option Addr) (m c : Nat)   (u : Value) (hu : u = .slice A m c) (hk : kindOf kind = 4) :
    Calls Try.prog 21 #[.pointer (some ⟨g, 0, none⟩), .agg (thing who kind n i wd b0 b1 b2 b3 b4 b5 b6 b7 x y u)] w fun e w' => e = .returned (.int .i64 0) ∧ Wrote base g v (l ++ [b0, b1, b2, b3, b4, b5, b6, b7]) w w' := by
  subst hu
  have HW := Aside0.mk hw
  have HBASE := Aside0.mk hb
  have HLEN := Aside0.mk hlen
  have HK := Aside0.mk hk
  clear hw hb hlen hk
  unfold thing
  go_enter Try.func21, Try.ntmps21
  go_wp2_with fail
  refine (round7_calls kind _).mono ?_
  rintro e w1 ⟨rfl, rfl⟩
  rw [HK.out]
  have HCH : Aside0 (Chg (fun _ => False) w (w.alloc (.cells #[Value.int .i64 who, Value.int .i64 kind, Value.int .u64 n, Value.int .i64 i, Value.int .i64 wd, Value.int .u8 b0, Value.int .u8 b1, Value.int .u8 b2, Value.int .u8 b3, Value.int .u8 b4, Value.int .u8 b5, Value.int .u8 b6, Value.int .u8 b7, Value.int .i16 x, Value.int .i16 y, .slice A m c] 46))) := ⟨Chg.alloc (Chg.refl _ _) _⟩
  have HKW := Aside0.mk (HW.out.keep HCH.out (fun _ _ h => h))
  have HB1 : Aside0 (base ≤ (w.alloc (.cells #[Value.int .i64 who, Value.int .i64 kind, Value.int .u64 n, Value.int .i64 i, Value.int .i64 wd, Value.int .u8 b0, Value.int .u8 b1, Value.int .u8 b2, Value.int .u8 b3, Value.int .u8 b4, Value.int .u8 b5, Value.int .u8 b6, Value.int .u8 b7, Value.int .i16 x, Value.int .i16 y, .slice A m c] 46)).heap.size) := ⟨Nat.le_trans HBASE.out HCH.out.size⟩
  go_wp2_with fail
  rw [show (#[Value.int .u8 b0, Value.int .u8 b1, Value.int .u8 b2, Value.int .u8 b3, Value.int .u8 b4, Value.int .u8 b5, Value.int .u8 b6, Value.int .u8 b7] : Array Value) = (nums .u8 [b0, b1, b2, b3, b4, b5, b6, b7]).toArray from rfl]
  refine (wID_calls base g v l [b0, b1, b2, b3, b4, b5, b6, b7] rfl _ HKW.out HB1.out HLEN.out).mono ?_
  rintro e w2 ⟨rfl, h⟩
  have H := Aside0.mk (Wrote.after HCH.out h)
  clear h
  go_wp2
  go_ret
  exact ⟨rfl, H.out⟩
set_option maxHeartbeats 8000000 in
set_option maxRecDepth 100000 in
theorem put_point (base g : Nat) (v : Value) (l : List Int) (w : World) (hw : WAt w base g v l) (hb : base ≤ w.heap.size) (hlen : l.length + 4 ≤ 140737488355328) (who kind n i wd b0 b1 b2 b3 b4 b5 b6 b7 x y : Int) (A : Option Addr) (m c : Nat)   (u : Value) (hu : u = .slice A m c) (hk : kindOf kind = 5) :
    Calls Try.prog 21 #[.pointer (some ⟨g, 0, none⟩), .agg (thing who kind n i wd b0 b1 b2 b3 b4 b5 b6 b7 x y u)] w fun e w' => e = .returned (.int .i64 0) ∧ Wrote base g v (l ++ pointB x y) w w' := by
  subst hu
  have HW := Aside0.mk hw
  have HBASE := Aside0.mk hb
  have HLEN := Aside0.mk hlen
  have HK := Aside0.mk hk
  clear hw hb hlen hk
  unfold thing
  go_enter Try.func21, Try.ntmps21
  go_wp2_with fail
  refine (round7_calls kind _).mono ?_
  rintro e w1 ⟨rfl, rfl⟩
  rw [HK.out]
  have HCH : Aside0 (Chg (fun _ => False) w (w.alloc (.cells #[Value.int .i64 who, Value.int .i64 kind, Value.int .u64 n, Value.int .i64 i, Value.int .i64 wd, Value.int .u8 b0, Value.int .u8 b1, Value.int .u8 b2, Value.int .u8 b3, Value.int .u8 b4, Value.int .u8 b5, Value.int .u8 b6, Value.int .u8 b7, Value.int .i16 x, Value.int .i16 y, .slice A m c] 46))) := ⟨Chg.alloc (Chg.refl _ _) _⟩
  have HKW := Aside0.mk (HW.out.keep HCH.out (fun _ _ h => h))
  have HB1 : Aside0 (base ≤ (w.alloc (.cells #[Value.int .i64 who, Value.int .i64 kind, Value.int .u64 n, Value.int .i64 i, Value.int .i64 wd, Value.int .u8 b0, Value.int .u8 b1, Value.int .u8 b2, Value.int .u8 b3, Value.int .u8 b4, Value.int .u8 b5, Value.int .u8 b6, Value.int .u8 b7, Value.int .i16 x, Value.int .i16 y, .slice A m c] 46)).heap.size) := ⟨Nat.le_trans HBASE.out HCH.out.size⟩
  go_wp2_with fail
  refine (wPoint_calls base g v l x y _ HKW.out HB1.out HLEN.out).mono ?_
  rintro e w2 ⟨rfl, h⟩
  have H := Aside0.mk (Wrote.after HCH.out h)
  clear h
  go_wp2
  go_ret
  exact ⟨rfl, H.out⟩
set_option maxHeartbeats 8000000 in
set_option maxRecDepth 100000 in
theorem put_text (base g : Nat) (v : Value) (l : List Int) (w : World) (hw : WAt w base g v l) (hb : base ≤ w.heap.size) (bs : List Int) (hlen : l.length + 11 + bs.length ≤ 140737488355328) (who kind n i wd b0 b1 b2 b3 b4 b5 b6 b7 x y : Int) (A : Option Addr) (m c : Nat)  (hm : m = bs.length) (hbs : Kd.C (Kd.int .u8) w A bs.length bs) (hby : IsBytes bs) (u : Value) (hu : u = .slice A m c) (hk : kindOf kind = 6) :
    Calls Try.prog 21 #[.pointer (some ⟨g, 0, none⟩), .agg (thing who kind n i wd b0 b1 b2 b3 b4 b5 b6 b7 x y u)] w fun e w' => e = .returned (.int .i64 0) ∧ Wrote base g v (l ++ (varB bs.length ++ bs)) w w' := by
  subst hu
  subst hm
  have HW := Aside0.mk hw
  have HBASE := Aside0.mk hb
  have HLEN := Aside0.mk hlen
  have HK := Aside0.mk hk
  have HBS := Aside0.mk hbs
  have HBY := Aside0.mk hby
  clear hw hb hlen hk hbs hby
  unfold thing
  go_enter Try.func21, Try.ntmps21
  go_wp2_with fail
  refine (round7_calls kind _).mono ?_
  rintro e w1 ⟨rfl, rfl⟩
  rw [HK.out]
  have HCH : Aside0 (Chg (fun _ => False) w (w.alloc (.cells #[Value.int .i64 who, Value.int .i64 kind, Value.int .u64 n, Value.int .i64 i, Value.int .i64 wd, Value.int .u8 b0, Value.int .u8 b1, Value.int .u8 b2, Value.int .u8 b3, Value.int .u8 b4, Value.int .u8 b5, Value.int .u8 b6, Value.int .u8 b7, Value.int .i16 x, Value.int .i16 y, .slice A bs.length c] 46))) := ⟨Chg.alloc (Chg.refl _ _) _⟩
  have HKW := Aside0.mk (HW.out.keep HCH.out (fun _ _ h => h))
  have HB1 : Aside0 (base ≤ (w.alloc (.cells #[Value.int .i64 who, Value.int .i64 kind, Value.int .u64 n, Value.int .i64 i, Value.int .i64 wd, Value.int .u8 b0, Value.int .u8 b1, Value.int .u8 b2, Value.int .u8 b3, Value.int .u8 b4, Value.int .u8 b5, Value.int .u8 b6, Value.int .u8 b7, Value.int .i16 x, Value.int .i16 y, .slice A bs.length c] 46)).heap.size) := ⟨Nat.le_trans HBASE.out HCH.out.size⟩
  have hcv := conv_text c (Kd.C_alloc HBS.out (.cells #[Value.int .i64 who, Value.int .i64 kind, Value.int .u64 n, Value.int .i64 i, Value.int .i64 wd, Value.int .u8 b0, Value.int .u8 b1, Value.int .u8 b2, Value.int .u8 b3, Value.int .u8 b4, Value.int .u8 b5, Value.int .u8 b6, Value.int .u8 b7, Value.int .i16 x, Value.int .i16 y, .slice A bs.length c] 46))
  go_wp2_with fail
  refine (wText_calls base g v l (strOfNums bs) _ HKW.out HB1.out (by rw [strOfNums_size]; exact HLEN.out)).mono ?_
  rintro e w2 ⟨rfl, h⟩
  rw [strOfNums_size, bytesOf_strOfNums _ HBY.out, List.append_assoc] at h
  have H := Aside0.mk (Wrote.after HCH.out h)
  clear h
  go_wp2
  go_ret
  exact ⟨rfl, H.out⟩
end Go.Proofs.Ytjijmikpoenbcaa.Codec
