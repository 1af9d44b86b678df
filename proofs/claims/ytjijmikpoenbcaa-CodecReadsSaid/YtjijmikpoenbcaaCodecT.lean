/- The contracts of the byte reader and writer, third part: points, ids, texts. Conditions: those that stand in each theorem. Written in this session. -/
import Derived.Test.YtjijmikpoenbcaaCodecS
import Derived.Laws.BytesArg
import Derived.Laws.BytesString
namespace Go.Proofs.Ytjijmikpoenbcaa.Codec
open Go.RowKit Go.Proofs.YtjijmikpoenbcaaW.PrintWords Go.Proofs.YtjijmikpoenbcaaW.PrintLast Go.Proofs.YtjijmikpoenbcaaW.PrintMore
set_option linter.unusedVariables false
/-- some bytes that stand in a block of their own, and nowhere else, are put -/
theorem bytes_put (base g : Nat) (v : Value) (l ps : List Int) (w : World) (hw : WAt w base g v l) (hb : base ≤ w.heap.size) (hps : 0 < ps.length) (hlen : l.length + ps.length ≤ 140737488355328) :
    Calls Try.prog 50 #[.pointer (some ⟨g, 0, none⟩), .slice (some ⟨w.heap.size, 0, none⟩) ps.length ps.length] (w.alloc (.cells (nums .u8 ps).toArray 5)) fun e w' => e = .returned (.tuple #[]) ∧ Wrote base g v (l ++ ps) w w' := by
  have hk : WAt (w.alloc (.cells (nums .u8 ps).toArray 5)) base g v l := hw.keep (F := fun _ => False) (Chg.alloc (Chg.refl _ _) _) (fun _ _ h => h)
  refine (put_calls base g v l ⟨w.heap.size, 0, none⟩ ps.length ps _ hk (by rw [World.size_alloc]; omega) (bytes_at (blk_new w _) (by omega)) hps hlen).mono ?_
  rintro e w' ⟨rfl, v', h1, h2, h3⟩
  refine ⟨rfl, v', h1, fun k hk => ?_, (Chg.alloc (Chg.refl _ _) _).trans h3⟩
  rcases h2 k hk with q | q
  · exact Or.inl q
  · rw [World.size_alloc] at q; exact Or.inr (by omega)
theorem Wrote.after {base g : Nat} {v : Value} {l : List Int} {a b c : World} (hab : Chg (fun _ => False) a b) (h : Wrote base g v l b c) : Wrote base g v l a c := by
  obtain ⟨v', k1, k2, k3⟩ := h
  refine ⟨v', k1, fun k hk => ?_, (hab.mono (fun _ h => h.elim)).trans k3⟩
  rcases k2 k hk with q | q
  · exact Or.inl q
  · exact Or.inr (by have := hab.size; omega)
def pointB (x y : Int) : List Int := [x % 65536 / 256, x % 256, y % 65536 / 256, y % 256]
set_option maxHeartbeats 8000000 in
set_option maxRecDepth 100000 in
theorem wPoint_calls (base g : Nat) (v : Value) (l : List Int) (x y : Int) (w : World) (hw : WAt w base g v l) (hb : base ≤ w.heap.size) (hlen : l.length + 4 ≤ 140737488355328) :
    Calls Try.prog 24 #[.pointer (some ⟨g, 0, none⟩), .agg #[.int .i16 x, .int .i16 y]] w fun e w' => e = .returned (.tuple #[]) ∧ Wrote base g v (l ++ pointB x y) w w' := by
  have HW := Aside0.mk hw
  have HBASE := Aside0.mk hb
  have HLEN := Aside0.mk hlen
  clear hw hb hlen
  go_enter Try.func24, Try.ntmps24
  go_wp2
  go_quiet (fail)
  rename_i nq
  have HX : Aside0 (∀ z : Int, IntKind.u16.wrap z / 256 % 256 = z % 65536 / 256 ∧ IntKind.u16.wrap z % 256 = z % 256) := ⟨fun z => by rw [IntKind.wrap_u16]; omega⟩
  have HCH : Aside0 (Chg (fun _ => False) w ((w.alloc (.cells #[Value.int .i16 x, Value.int .i16 y] 44)).drewN nq)) := ⟨Chg.drewN (Chg.alloc (Chg.refl _ _) _) _⟩
  have HK := Aside0.mk (HW.out.keep HCH.out (fun _ _ h => h))
  have HP := Aside0.mk (bytes_put base g v l (pointB x y) _ HK.out (by have := HBASE.out; have := HCH.out.size; omega) (by simp [pointB]) (by simpa [pointB] using HLEN.out))
  have e1 : (nums .u8 (pointB x y)).toArray = #[Value.int .u8 (x % 65536 / 256), Value.int .u8 (x % 256), Value.int .u8 (y % 65536 / 256), Value.int .u8 (y % 256)] := rfl
  have e2 : (pointB x y).length = 4 := rfl
  have e3 : ((w.alloc (.cells #[Value.int .i16 x, Value.int .i16 y] 44)).drewN nq).heap.size = w.heap.size + 1 := World.size_alloc w _
  rw [e1, e2, e3] at HP
  clear e1 e2 e3
  go_wp2_with fail
  rw [(HX.out x).1, (HX.out x).2, (HX.out y).1, (HX.out y).2]
  refine HP.out.mono ?_
  rintro e w' ⟨rfl, h⟩
  have H := Aside0.mk (Wrote.after HCH.out h)
  clear h
  go_wp2
  go_end0
  exact ⟨rfl, H.out⟩
theorem conv_text {w : World} {A : Option Addr} {bs : List Int} (c : Nat) (h : Kd.C (Kd.int .u8) w A bs.length bs) : (convert 22 9 (.slice A bs.length c)).run Try.prog w = .ok (.string (strOfNums bs)) w := by
  cases A with
  | none =>
    have h0 : bs = [] := by
      by_cases hp : 0 < bs.length
      · obtain ⟨a, ha, _⟩ := h.2.2 hp
        cases ha
      · exact List.eq_nil_of_length_eq_zero (by omega)
    subst h0
    exact run_convert_bytes_nil w 22 5 Try.underlying22 Try.underlying5 0 c 9 Try.underlying9
  | some a =>
    have hl : (loadCells a bs.length).run Try.prog w = .ok (bs.map (Value.int .u8)).toArray w := by
      have := run_loadCells_list (P := Try.prog) w a (bs.map (Value.int .u8)) (fun j v hj => by
        have hjl : j < bs.length := by
          rcases Nat.lt_or_ge j bs.length with h | h
          · exact h
          · simp [List.getElem?_eq_none (show (bs.map (Value.int .u8)).length ≤ j by simpa using h)] at hj
        rw [C_read h j hjl]
        simp [List.getElem?_eq_getElem hjl] at hj
        subst hj
        simp [rd, List.getD, List.getElem?_eq_getElem hjl])
      simpa using this
    rw [run_convert_bytes_string w 22 9 5 _ bs.length c Try.underlying22 Try.underlying5 Try.underlying9, run_bytesToString w _ bs.length c bs hl, foldl_push_bytes]
    simp [strOfNums, ByteArray.empty, ByteArray.emptyWithCapacity]
    rfl
/-- a text is read -/
def textR (most : Int) (l : List Int) (e : Int) : List Int × List Int × Int :=
  if most < 0 then ([], [], failE 1 e)
  else if most < (varR l e).1 then ([], [], failE 3 (varR l e).2.2)
  else if (varR l e).2.1.length < (varR l e).1 then ([], [], failE 20 (varR l e).2.2)
  else nextR (varR l e).1 (varR l e).2.1 (varR l e).2.2
set_option maxHeartbeats 8000000 in
set_option maxRecDepth 100000 in
theorem rText_calls (base g : Nat) (v : Value) (l : List Int) (hby : IsBytes l) (e0 : Int) (most : Int) (hmost : most ≤ 9223372036854775807) (w : World) (hr : RAt w base g v l e0) :
    Calls Try.prog 26 #[.pointer (some ⟨g, 0, none⟩), .int .i64 most] w fun e w' => e = .returned (.string (strOfNums (textR most l e0).1)) ∧ Took base g v (textR most l e0).2.1 (textR most l e0).2.2 w w' := by
  have HR := Aside0.mk hr
  have HBY := Aside0.mk hby
  clear hr hby
  have hemp : strOfNums [] = ByteArray.empty := rfl
  by_cases hm : most < 0
  · have e : textR most l e0 = ([], [], failE 1 e0) := by simp [textR, hm]
    rw [e, hemp]
    clear e
    go_enter Try.func26, Try.ntmps26
    go_wp2_with fail
    refine (fail_calls base g v l e0 1 (by decide) w HR.out).mono ?_
    rintro e w1 ⟨rfl, h⟩
    have H := Aside0.mk h
    clear h
    go_wp2
    go_ret
    exact ⟨rfl, H.out⟩
  · obtain ⟨M, hM⟩ := Int.eq_ofNat_of_zero_le (show 0 ≤ most by omega)
    subst hM
    have HV := Aside0.mk (rVar_calls base g v l HBY.out e0 w HR.out)
    have HNB := Aside0.mk (varR_bound l HBY.out e0)
    have e : textR M l e0 = (if (M : Int) < (varR l e0).1 then ([], [], failE 3 (varR l e0).2.2) else if (varR l e0).2.1.length < (varR l e0).1 then ([], [], failE 20 (varR l e0).2.2) else nextR (varR l e0).1 (varR l e0).2.1 (varR l e0).2.2) := by unfold textR; rw [if_neg hm]
    rw [e]
    clear e
    generalize varR l e0 = res at HV HNB ⊢
    obtain ⟨n, l1, e1⟩ := res
    have hw1 : IntKind.u64.wrap (M : Int) = (M : Int) := wrap_u64_nonneg (by omega) (by omega)
    by_cases h1 : (M : Int) < n
    · simp only [h1, if_true, hemp]
      go_enter Try.func26, Try.ntmps26
      go_wp2_with fail
      refine HV.out.mono ?_
      rintro e w1 ⟨rfl, v1, k1, k2, k3⟩
      have K1 := Aside0.mk k1
      have K2 := Aside0.mk k2
      have K3 := Aside0.mk k3
      clear k1 k2 k3
      go_wp2_with fail
      refine (fail_calls base g v1 l1 e1 3 (by decide) w1 K1.out).mono ?_
      rintro e w2 ⟨rfl, h⟩
      have H := Aside0.mk h
      clear h
      go_wp2
      go_ret
      exact ⟨rfl, Took.trans K2.out K3.out H.out⟩
    · simp only [h1, if_false]
      go_enter Try.func26, Try.ntmps26
      go_wp2_with fail
      refine HV.out.mono ?_
      rintro e w1 ⟨rfl, v1, k1, k2, k3⟩
      have K1 := Aside0.mk k1
      have K2 := Aside0.mk k2
      have K3 := Aside0.mk k3
      obtain ⟨A, c, rfl⟩ := k1.slice
      have hc0 : w1.cell? ⟨g, 0, none⟩ = some (.slice A l1.length c) := (blk_cell k1.blk 0).trans rfl
      have hl1 := k1.len
      have hw2 : IntKind.u64.wrap (l1.length : Int) = (l1.length : Int) := wrap_u64_nonneg (by omega) (by omega)
      clear k1 k2 k3
      by_cases h2 : l1.length < n
      · have h3 : (l1.length : Int) < (n : Int) := by omega
        go_wp2_with fail
        refine (fail_calls base g _ l1 e1 20 (by decide) w1 K1.out).mono ?_
        rintro e w2 ⟨rfl, h⟩
        have H := Aside0.mk h
        clear h
        go_wp2
        go_ret
        exact ⟨rfl, Took.trans K2.out K3.out H.out⟩
      · have h3 : ¬ (l1.length : Int) < (n : Int) := by omega
        have hw3 : wrap64 (n : Int) = (n : Int) := by unfold wrap64; omega
        have HN := Aside0.mk (next_all base g _ l1 e1 n w1 K1.out)
        obtain ⟨bs, l2, e2, hres⟩ : ∃ bs l2 e2, nextR n l1 e1 = (bs, l2, e2) := ⟨_, _, _, rfl⟩
        rw [hres] at HN
        have HRES := Aside0.mk hres
        clear hres
        go_wp2_with fail
        refine HN.out.mono ?_
        rintro e w2 ⟨⟨A2, c2, rfl, hC⟩, h⟩
        have hcv := conv_text c2 hC
        have H := Aside0.mk h
        clear h hC
        go_wp2
        go_ret
        rw [HRES.out]
        exact ⟨rfl, Took.trans K2.out K3.out H.out⟩
set_option maxHeartbeats 8000000 in
set_option maxRecDepth 100000 in
theorem rEnd_nil (w : World) : Calls Try.prog 28 #[.pointer none] w fun e w' => e = .returned (.int .i64 2) ∧ w' = w := by
  go_enter Try.func28, Try.ntmps28
  go_wp2
  go_ret
  exact ⟨rfl, rfl⟩
set_option maxHeartbeats 8000000 in
set_option maxRecDepth 100000 in
theorem wFixed_nil (n wd : Int) (w : World) : Calls Try.prog 33 #[.pointer none, .int .u64 n, .int .i64 wd] w fun e w' => e = .returned (.int .i64 2) ∧ w' = w := by
  go_enter Try.func33, Try.ntmps33
  go_wp2
  go_ret
  exact ⟨rfl, rfl⟩
theorem WAt.below {w w' : World} {base g : Nat} {v : Value} {l : List Int} (h : WAt w base g v l) (hb : Below w.heap.size w w') : WAt w' base g v l := h.keep (F := fun _ => False) (Chg.of_below hb) (fun _ _ h => h)
theorem RAt.below {w w' : World} {base g : Nat} {v : Value} {l : List Int} {e : Int} (h : RAt w base g v l e) (hb : Below w.heap.size w w') : RAt w' base g v l e := h.keep (F := fun _ => False) (Chg.of_below hb) (fun _ _ h => h)
theorem below_new (w : World) (o : Obj) : Below w.heap.size w (w.alloc o) := below_alloc (Below.refl _ _) o
end Go.Proofs.Ytjijmikpoenbcaa.Codec
