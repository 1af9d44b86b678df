/- The row of the law CertBest: for every input the call returns true, and each argument reads behind it as before. No condition. Written by this session's program gp.py. -/
import Derived.Test.YtmdidgdcdlodlaaRows
import Derived.Test.YtmdidgdcdlodlaaQ16
import Derived.Test.YtmdidgdcdlodlaaPureCertBest
import Derived.Test.YtmdidgdcdlodlaaOpen
import Derived.WalkKit
import Derived.ProofKit
import Derived.OpenShut
import Derived.ShutString
import Derived.ChangeOld
import Derived.Below
import Derived.SizedLaws
namespace Go.Proofs.Ytmdidgdcdlodlaa.certBest
open Go.ChangeShapes Go.WideShapes Go.ChangeAt Go.RowKit Go.Proofs.Ytmdidgdcdlodlaa.Open Go.Proofs.Ytmdidgdcdlodlaa.Q Go.Proofs.YtmdidgdcdlodlaaW.PrintWords
open Go.ChangeMaps (open_string shut_string)
set_option linter.unusedVariables false
theorem own : ownKnob Try.prog.godebug = none := by kernel_rfl
theorem laidOut : laidOutB Try.prog = true := by kernel_rfl
set_option maxRecDepth 100000 in
theorem lifted (os : Os) (started : os.Started) (H : Type) (enc : TypeId × Value → H) :
    ReturnsInHanded {} Try.checked os 7 .any (Rows.certBestSpec.pre6 enc Try.prog Try.f7 Rows.certBestRow.domain false) (Rows.certBestSpec.post enc Try.prog Try.f7 false true false false) := by
  refine returnsInHanded_of_change_sized (C := Try.checked) own started (by kernel_rfl) Try.func7
    (ChangeSpec.witness6 (enc := enc) (C := Try.checked) false ⟨#[], #[.agg #[.int .i64 0, .int .i64 0, .slice none 0 0], .agg #[.slice none 0 0, .slice none 0 0, .slice none 0 0], .slice none 0 0], []⟩ 8 (by kernel_rfl) (by kernel_rfl) (by kernel_rfl) (by kernel_rfl)) ?_
  intro W base args ds gs before hval0 hW hcnd hsz0 _
  have hsz : (DataW.weightsEach Try.prog (Try.f7.params.toList ++ Rows.certBestSpec.plain.varTypes Try.prog) (ds ++ gs)).all (· ≤ reachBytes) = true := hsz0
  have hval : ∀ (j : Nat) t v, Try.f7.params[j]? = some t → args[j]? = some v → Value.okWide Try.prog W .any base t v := hval0
  have hW' := hW
  obtain ⟨p, q, hA0, hV, rfl, hfz, hnd⟩ := hW
  have hA : DataW.TrodAll enc Try.prog W 0 (fun _ => true) true Try.f7.params.toList args.toList ds p := hA0
  rw [Try.params7] at hA hval hsz
  obtain ⟨v0, vs0, d0, ds0, p0, q0, hargs, rfl, rfl, h0, r0⟩ := trodAll_cons hA
  obtain ⟨v1, vs1, d1, ds1, p1, q1, rfl, rfl, rfl, h1, r1⟩ := trodAll_cons r0
  obtain ⟨v2, vs2, d2, ds2, p2, q2, rfl, rfl, rfl, h2, r2⟩ := trodAll_cons r1
  obtain ⟨rfl, rfl, rfl⟩ := trodAll_nil r2
  obtain rfl : args = #[v0, v1, v2] := by cases args; simp_all
  obtain ⟨rfl, rfl⟩ := trodVars_none hV
  have k0 := h0
  have lt0 : ∀ x ∈ p0, x.block < W.heap.size := by obtain ⟨m, hm⟩ := k0; exact DataW.trod_lt m _ _ _ hm
  obtain ⟨cs0, rfl, _⟩ := okWide_struct Try.underlying24 (hval 0 24 v0 rfl rfl)
  obtain ⟨fu0, hf0⟩ := h0
  obtain ⟨⟨a0_0, ⟨a0_1, l0_2⟩⟩, hK0, hO0⟩ := ((Opens.struct Try.underlying24 (by kernel_rfl) (Fields.cons (Opens.int Try.underlying3 (by kernel_rfl)) (Fields.cons (Opens.int Try.underlying3 (by kernel_rfl)) (Fields.one (Opens.slice 24 Try.underlying22 (by kernel_rfl) (by kernel_rfl) (Opens.iso (Opens.struct Try.underlying69 (by kernel_rfl) (Fields.cons (Opens.int Try.underlying3 (by kernel_rfl)) (Fields.cons (Opens.int Try.underlying3 (by kernel_rfl)) (Fields.one (Opens.int Try.underlying3 (by kernel_rfl)))))) (fun x_ : S69 => (x_.f0, x_.f1, x_.f2)) (fun a_ => ⟨a_.1, a_.2.1, a_.2.2⟩) (fun _ => rfl)))))))).get hf0
  have hok0 := hO0 (fun n_ hn_ => by simpa using List.all_eq_true.1 hsz _ (DataW.weights_mem_each (j := 0) (t := 24) rfl rfl n_ hn_))
  obtain ⟨cl0, hcl0⟩ : ∃ l, l = (Value.agg cs0).cells.toList := ⟨_, rfl⟩
  rw [← hcl0] at hK0
  obtain ⟨_, _, rfl, rfl, ⟨_, _, rfl, rfl, ⟨A0_2, c0_2, rfl, hc0_2, hr0_2⟩⟩⟩ := hK0
  obtain rfl : cs0 = #[.int .i64 a0_0, .int .i64 a0_1, .slice A0_2 l0_2.length c0_2] := by apply Array.ext'; simpa [Value.cells] using hcl0.symm
  have k1 := h1
  have lt1 : ∀ x ∈ p1, x.block < W.heap.size := by obtain ⟨m, hm⟩ := k1; exact DataW.trod_lt m _ _ _ hm
  obtain ⟨cs1, rfl, _⟩ := okWide_struct Try.underlying28 (hval 1 28 v1 rfl rfl)
  obtain ⟨fu1, hf1⟩ := h1
  obtain ⟨⟨l1_0, ⟨l1_1, l1_2⟩⟩, hK1, hO1⟩ := ((Opens.struct Try.underlying28 (by kernel_rfl) (Fields.cons (Opens.slice 16 Try.underlying25 (by kernel_rfl) (by kernel_rfl) (Opens.iso (Opens.struct Try.underlying50 (by kernel_rfl) (Fields.cons (Opens.int Try.underlying3 (by kernel_rfl)) (Fields.one (Opens.int Try.underlying3 (by kernel_rfl))))) (fun x_ : S50 => (x_.f0, x_.f1)) (fun a_ => ⟨a_.1, a_.2⟩) (fun _ => rfl))) (Fields.cons (Opens.slice 8 Try.underlying26 (by kernel_rfl) (by kernel_rfl) (Opens.int Try.underlying3 (by kernel_rfl))) (Fields.one (Opens.slice 8 Try.underlying26 (by kernel_rfl) (by kernel_rfl) (Opens.int Try.underlying3 (by kernel_rfl)))))))).get hf1
  have hok1 := hO1 (fun n_ hn_ => by simpa using List.all_eq_true.1 hsz _ (DataW.weights_mem_each (j := 1) (t := 28) rfl rfl n_ hn_))
  obtain ⟨cl1, hcl1⟩ : ∃ l, l = (Value.agg cs1).cells.toList := ⟨_, rfl⟩
  rw [← hcl1] at hK1
  obtain ⟨_, _, rfl, ⟨A1_0, c1_0, rfl, hc1_0, hr1_0⟩, ⟨_, _, rfl, ⟨A1_1, c1_1, rfl, hc1_1, hr1_1⟩, ⟨A1_2, c1_2, rfl, hc1_2, hr1_2⟩⟩⟩ := hK1
  obtain rfl : cs1 = #[.slice A1_0 l1_0.length c1_0, .slice A1_1 l1_1.length c1_1, .slice A1_2 l1_2.length c1_2] := by apply Array.ext'; simpa [Value.cells] using hcl1.symm
  have k2 := h2
  have lt2 : ∀ x ∈ p2, x.block < W.heap.size := by obtain ⟨m, hm⟩ := k2; exact DataW.trod_lt m _ _ _ hm
  obtain ⟨A2, n2, c2, rfl⟩ := okWide_slice Try.underlying25 (hval 2 25 v2 rfl rfl)
  obtain ⟨fu2, hf2⟩ := h2
  obtain ⟨l2, ⟨A_, c_, he2, hc2, hr2⟩, hO2⟩ := ((Opens.slice 16 Try.underlying25 (by kernel_rfl) (by kernel_rfl) (Opens.iso (Opens.struct Try.underlying50 (by kernel_rfl) (Fields.cons (Opens.int Try.underlying3 (by kernel_rfl)) (Fields.one (Opens.int Try.underlying3 (by kernel_rfl))))) (fun x_ : S50 => (x_.f0, x_.f1)) (fun a_ => ⟨a_.1, a_.2⟩) (fun _ => rfl)))).get hf2
  have hok2 := hO2 (fun n_ hn_ => by simpa using List.all_eq_true.1 hsz _ (DataW.weights_mem_each (j := 2) (t := 25) rfl rfl n_ hn_))
  simp only [Value.cells, List.cons.injEq, Value.slice.injEq, and_true] at he2
  obtain ⟨rfl, rfl, rfl⟩ := he2
  clear hA0 hval0 hsz0 hsz
  obtain ⟨k, h⟩ := pureCertBest a0_0 a0_1 l0_2 l1_0 l1_1 l1_2 l2 hok0 hok1 hok2
  refine (cabstandlaw18_CertBest.calls k a0_0 a0_1 _ _ l0_2 _ _ l1_0 _ _ l1_1 _ _ l1_2 _ _ l2 true W hr0_2 hc0_2 hr1_0 hc1_0 hr1_1 hc1_1 hr1_2 hc1_2 hr2 hc2 h).mono fun e W' ⟨he, bel⟩ => ?_
  subst he
  exact ⟨_, rfl, _, _, _, [], _, [], hW', trodAll_mk1 (shut_bool Try.underlying4 _), (trodAll_cons_mk (Below.trod laidOut (by kernel_rfl) (of_decide_eq_true (by kernel_rfl)) k0 bel lt0) (trodAll_cons_mk (Below.trod laidOut (by kernel_rfl) (of_decide_eq_true (by kernel_rfl)) k1 bel lt1) (trodAll_cons_mk (Below.trod laidOut (by kernel_rfl) (of_decide_eq_true (by kernel_rfl)) k2 bel lt2) trodAll_mk0))), rfl, bel.frame _, fun h => by cases h⟩
theorem over : Rows.certBestRow.holds Try.pinned (OpenSpec.ofChange Rows.certBestSpec) :=
  OpenClaim.holds_of_wide 7 Try.f7 rfl rfl rfl rfl rfl rfl rfl ⟨rfl, rfl, rfl, rfl, rfl⟩ rfl rfl rfl rfl rfl (by kernel_rfl) Try.func7 (by kernel_rfl)
    (of_decide_eq_true (by kernel_rfl)) (by unfold Func.isWrapper; first | (rw [if_pos (by decide +kernel)]; kernel_rfl) | (rw [if_neg (by decide +kernel)]; exact ⟨rfl, rfl⟩))
    (fun os started H enc _ => lifted os started H enc)
theorem proved : Rows.CertBestSaid := over
end Go.Proofs.Ytmdidgdcdlodlaa.certBest
namespace Go.Proofs.Ytmdidgdcdlodlaa
/-- The row, under a short name, for the claim. -/
theorem certBest_holds : Rows.CertBestSaid := certBest.proved
#print axioms certBest_holds
end Go.Proofs.Ytmdidgdcdlodlaa
