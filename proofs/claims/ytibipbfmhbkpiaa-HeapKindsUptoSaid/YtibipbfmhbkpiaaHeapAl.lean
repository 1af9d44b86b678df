import Derived.Test.YtibipbfmhbkpiaaHeapSIC
import Derived.Test.YtibipbfmhbkpiaaHeapSID
namespace Go.Proofs.Ytibipbfmhbkpiaa.HeapSI
open Go.RowKit Go.Proofs.YtibipbfmhbkpiaaW.PrintWords Go.Proofs.YtibipbfmhbkpiaaW.PrintLast Go.Proofs.YtibipbfmhbkpiaaW.PrintMore Go.Proofs.Ytibipbfmhbkpiaa.HeapW Go.Proofs.Ytibipbfmhbkpiaa.HeapP Go.Proofs.Ytibipbfmhbkpiaa.MapAt
def ltI (a b : Int) : Bool := decide (a < b)
def s97 : ByteArray := ⟨#[97]⟩
def s98 : ByteArray := ⟨#[98]⟩
def s99 : ByteArray := ⟨#[99]⟩
def L4 : List It := putL ltI (putL ltI (putL ltI (putL ltI [] 1 s97 5) 2 s98 3) 3 s99 3) 4 s98 3
theorem l4 : L4 = [(s99, 3, 3), (s97, 5, 1), (s98, 3, 4)] := by decide +kernel
theorem l5 : dropL ltI L4 0 = [(s98, 3, 4), (s97, 5, 1)] := by decide +kernel
theorem i5 : idxL [(s98, (3 : Int), (4 : Int)), (s97, 5, 1)] s97 = some 1 := by decide +kernel
theorem l6 : dropL ltI [(s98, 3, 4), (s97, 5, 1)] 1 = [(s98, 3, 4)] := by decide +kernel
theorem rise_less : Less 47 ltI where
  fn := ⟨Try.f47, Try.func47, by kernel_rfl, by kernel_rfl⟩
  calls a b w := by
    go_enter Try.func47, Try.ntmps47
    go_wp2
    go_ret
    exact ⟨rfl, Below.refl _ _⟩
def L1 : List It := putL ltI [] 1 s97 5
def L2 : List It := putL ltI L1 2 s98 3
def L3 : List It := putL ltI L2 3 s99 3
theorem lens_ : L1.length = 1 ∧ L2.length = 2 ∧ L3.length = 3 := by decide +kernel
theorem chg_below {w0 w w' : World} {g b : Nat} {A : Option Addr} (hb : Below w0.heap.size w0 w) (hc : Chg (hfp g A b) w w') (hg : ∀ k, hfp g A b k → w0.heap.size ≤ k) : Below w0.heap.size w0 w' := hb.trans (hc.below hb.size hg)
set_option maxHeartbeats 8000000 in
set_option maxRecDepth 100000 in
theorem alive_calls (w : World) : Calls Try.prog 13 #[] w fun e w' => e = .returned (.bool true) ∧ Below w.heap.size w w' := by
  have k97 : okK s97 := by unfold okK; decide +kernel
  have k98 : okK s98 := by unfold okK; decide +kernel
  have k99 : okK s99 := by unfold okK; decide +kernel
  have HK := Aside0.mk (And.intro k97 (And.intro k98 k99))
  clear k97 k98 k99
  go_enter Try.func13, Try.ntmps13
  go_wp2_with fail
  refine (new_calls 47 w).mono ?_
  rintro e w1 ⟨g, b, rfl, h1, hb1⟩
  have HB1 := Aside0.mk hb1
  have H1 := Aside0.mk h1
  clear h1 hb1
  go_wp2_with fail
  refine (put_calls w.heap.size g 47 ltI rise_less none 0 b ([] : List It) 0 s97 5 w1 H1.out HK.out.1 (by first | (have := lens_; omega) | decide) (by omega) HB1.out.size).mono ?_
  rintro e w2 ⟨rfl, A2, c2, h, hc, _⟩
  have HB2 := Aside0.mk (chg_below HB1.out hc H1.out.fp_ge)
  have H2 : Aside0 (HAt w2 w.heap.size g (.func (.func 47) #[] #[]) A2 c2 b L1 ((1 : Nat) : Int)) := ⟨h⟩
  clear h hc HB1 H1
  go_wp2_with fail
  refine (put_calls w.heap.size g 47 ltI rise_less A2 c2 b L1 1 s98 3 w2 H2.out HK.out.2.1 (by first | (have := lens_; omega) | decide) (by omega) HB2.out.size).mono ?_
  rintro e w3 ⟨rfl, A3, c3, h, hc, _⟩
  have HB3 := Aside0.mk (chg_below HB2.out hc H2.out.fp_ge)
  have H3 : Aside0 (HAt w3 w.heap.size g (.func (.func 47) #[] #[]) A3 c3 b L2 ((2 : Nat) : Int)) := ⟨h⟩
  clear h hc HB2 H2
  go_wp2_with fail
  refine (put_calls w.heap.size g 47 ltI rise_less A3 c3 b L2 2 s99 3 w3 H3.out HK.out.2.2 (by first | (have := lens_; omega) | decide) (by omega) HB3.out.size).mono ?_
  rintro e w4 ⟨rfl, A4, c4, h, hc, _⟩
  have HB4 := Aside0.mk (chg_below HB3.out hc H3.out.fp_ge)
  have H4 : Aside0 (HAt w4 w.heap.size g (.func (.func 47) #[] #[]) A4 c4 b L3 ((3 : Nat) : Int)) := ⟨h⟩
  clear h hc HB3 H3
  go_wp2_with fail
  refine (put_calls w.heap.size g 47 ltI rise_less A4 c4 b L3 3 s98 3 w4 H4.out HK.out.2.1 (by first | (have := lens_; omega) | decide) (by omega) HB4.out.size).mono ?_
  rintro e w5 ⟨rfl, A5, c5, h, hc, _⟩
  have HB5 := Aside0.mk (chg_below HB4.out hc H4.out.fp_ge)
  have H5 : Aside0 (HAt w5 w.heap.size g (.func (.func 47) #[] #[]) A5 c5 b L4 ((4 : Nat) : Int)) := ⟨h⟩
  clear h hc HB4 H4
  go_wp2_with fail
  have e0 : (at_ L4 0).1 = (⟨#[99]⟩ : ByteArray) := by rw [l4]; rfl
  have e1 : (at_ L4 0).2.1 = 3 := by rw [l4]; rfl
  have hp := pop_calls w.heap.size g 47 ltI rise_less A5 c5 b L4 _ w5 H5.out (by rw [l4]; decide) (by rw [l4]; decide)
  rw [e0, e1, l5] at hp
  refine hp.mono ?_
  clear e0 e1 hp
  rintro e w6 ⟨rfl, h, hc⟩
  have HB6 := Aside0.mk (chg_below HB5.out hc H5.out.fp_ge)
  have H6 := Aside0.mk h
  clear h hc HB5 H5
  go_wp2_with fail
  refine (rank_calls w.heap.size g _ A5 c5 b [(s98, 3, 4), (s97, 5, 1)] _ s98 w6 H6.out HK.out.2.1 (i := 0) (by decide +kernel)).mono ?_
  rintro e w7 ⟨rfl, hw_⟩
  replace hw_ := hw_.symm
  subst hw_
  rw [show (at_ [(s98, (3 : Int), (4 : Int)), (s97, 5, 1)] 0).2.1 = 3 from rfl]
  go_wp2_with fail
  refine (len_calls w.heap.size g _ A5 c5 b [(s98, 3, 4), (s97, 5, 1)] _ w6 H6.out).mono ?_
  rintro e w7 ⟨rfl, hw_⟩
  replace hw_ := hw_.symm
  subst hw_
  rw [show ([(s98, (3 : Int), (4 : Int)), (s97, 5, 1)] : List It).length = 2 from rfl]
  go_wp2_with fail
  have hd := drop_calls w.heap.size g 47 ltI rise_less A5 c5 b [(s98, 3, 4), (s97, 5, 1)] _ s97 w6 H6.out HK.out.1 i5 (by decide)
  rw [l6] at hd
  refine hd.mono ?_
  clear hd
  rintro e w7 ⟨rfl, h, hc⟩
  have HB7 := Aside0.mk (chg_below HB6.out hc H6.out.fp_ge)
  have H7 := Aside0.mk h
  clear h hc HB6 H6
  go_wp2_with fail
  refine (drop_none w.heap.size g _ A5 c5 b [(s98, 3, 4)] _ s97 w7 H7.out HK.out.1 (by decide +kernel)).mono ?_
  rintro e w8 ⟨rfl, hw_⟩
  replace hw_ := hw_.symm
  subst hw_
  go_wp2
  go_ret
  exact ⟨rfl, HB7.out⟩
end Go.Proofs.Ytibipbfmhbkpiaa.HeapSI
