/- The law CodecBack, walked. Written by wip/gen/back.py. -/
import Derived.Test.YtjijmikpoenbcaaTs
namespace Go.Proofs.Ytjijmikpoenbcaa.Codec
open Go.RowKit Go.Proofs.YtjijmikpoenbcaaW.PrintWords Go.Proofs.YtjijmikpoenbcaaW.PrintLast Go.Proofs.YtjijmikpoenbcaaW.PrintMore Go.Proofs.Ytjijmikpoenbcaa.Open Go.Proofs.Ytjijmikpoenbcaa.Q
set_option linter.unusedVariables false
theorem foldl_bytes : ∀ (t : List Int) (a : Nat), t.foldl (fun n b => n * 256 + b.toNat) a = a * 256 ^ t.length + fixN t := by
  intro t
  induction t with
  | nil => intro a; simp [fixN]
  | cons c t ih =>
    intro a
    have e1 := ih (a * 256 + c.toNat)
    have e2 := ih (0 * 256 + c.toNat)
    have e3 : fixN (c :: t) = List.foldl (fun n b => n * 256 + b.toNat) (0 * 256 + c.toNat) t := rfl
    rw [List.foldl_cons, e1, e3, e2, List.length_cons, Nat.pow_succ, Nat.add_mul, Nat.zero_mul, Nat.zero_add, Nat.mul_assoc, Nat.mul_comm 256, Nat.add_assoc]
theorem fixN_cons (b : Int) (t : List Int) : fixN (b :: t) = b.toNat * 256 ^ t.length + fixN t := by
  have := foldl_bytes t (0 * 256 + b.toNat)
  simpa [fixN] using this
theorem fixN_fixedB : ∀ k n, fixN (fixedB k n) = n % 256 ^ k := by
  intro k
  induction k with
  | zero => intro n; simp [fixedB, fixN, Nat.mod_one]
  | succ k ih =>
    intro n
    rw [fixedB, fixN_cons, fixedB_len, ih, Nat.mod_pow_succ]
    have : (((n / 256 ^ k % 256 : Nat) : Int)).toNat = n / 256 ^ k % 256 := by omega
    rw [this, Nat.mul_comm, Nat.add_comm]
theorem back_turned (i : Int) (h : -9223372036854775808 ≤ i ∧ i ≤ 9223372036854775807) : backI (turned i) = i := by
  unfold backI turned
  split <;> split <;> omega
theorem pair_back (x : Int) (h : -32768 ≤ x ∧ x < 32768) : pairI (x % 65536 / 256) (x % 256) = x := by
  unfold pairI
  split <;> omega
/-- what a read of a thing's own form answers -/
def backX (u : Th) : Th :=
  if kindOf u.kind = 0 then (0, 0, u.n % 256, 0, 0, zero8, (0, 0), [])
  else if kindOf u.kind = 1 then (0, 1, u.n, 0, u.w, zero8, (0, 0), [])
  else if kindOf u.kind = 2 then (0, 2, u.n, 0, 0, zero8, (0, 0), [])
  else if kindOf u.kind = 3 then (0, 3, 0, u.i, 0, zero8, (0, 0), [])
  else if kindOf u.kind = 4 then (0, 4, 0, 0, 0, u.id, (0, 0), [])
  else if kindOf u.kind = 5 then (0, 5, 0, 0, 0, zero8, u.p, [])
  else (0, 6, 0, 0, 0, zero8, (0, 0), u.t)
theorem took_back {u : Th} (h : Taken u) (rest : List Int) : tookR u ((putB u).1 ++ rest) 0 = (backX u, rest, 0) := by
  have hok := h.ok
  have hnn : ((u.n.toNat : Nat) : Int) = u.n := by have := h.good.gn; omega
  rcases kind_cases u.kind with hk | hk | hk | hk | hk | hk | hk
  · have e : putB u = ([u.n % 256], 0) := by simp [putB, hk]
    rw [e]
    simp [tookR, backX, hk, byteR]
  · have e : putB u = (if wide u.n.toNat u.w = true then ([], 1) else (fixedB u.w.toNat u.n.toNat, 0)) := by simp [putB, hk]
    rw [e] at hok ⊢
    by_cases hw : wide u.n.toNat u.w = true
    · rw [if_pos hw] at hok; exact absurd hok (by decide)
    · rw [if_neg hw]
      have hq : wide u.n.toNat u.w = false := by simpa using hw
      have hr : ¬ (u.w < 1 ∨ 8 < u.w) := by
        unfold wide at hq
        simp at hq
        omega
      have hlt : u.n.toNat < 256 ^ u.w.toNat := by
        by_cases h8 : u.w < 8
        · unfold wide at hq
          simp [h8] at hq
          have p2 : (2 : Nat) ^ (8 * u.w).toNat = 256 ^ u.w.toNat := by
            rw [show (8 * u.w).toNat = 8 * u.w.toNat by omega, Nat.pow_mul]
          have hz : u.n.toNat / 2 ^ (8 * u.w).toNat = 0 := by
            rcases hq with ⟨_, hq2⟩
            simpa using hq2
          rw [p2] at hz
          rcases Nat.div_eq_zero_iff.1 hz with h1 | h1
          · exact absurd h1 (Nat.pos_iff_ne_zero.1 (Nat.pow_pos (by decide)))
          · exact h1
        · have : u.w.toNat = 8 := by omega
          rw [this]
          have := h.good.gn
          have e8 : (256 : Nat) ^ 8 = 18446744073709551616 := by decide
          omega
      have hn := next_full u.w.toNat (fixedB u.w.toNat u.n.toNat) rest (fixedB_len _ _)
      have hf : fixN (fixedB u.w.toNat u.n.toNat) = u.n.toNat := by rw [fixN_fixedB, Nat.mod_eq_of_lt hlt]
      have e2 : fixedR u.w (fixedB u.w.toNat u.n.toNat ++ rest) 0 = (u.n, rest, 0) := by
        unfold fixedR
        rw [if_neg hr, hn, hf, hnn]
      simp [tookR, backX, hk, e2]
  · have e : putB u = (varB u.n.toNat, 0) := by simp [putB, hk]
    have := var_read u.n.toNat (by have := h.good.gn; omega) rest
    rw [e]
    simp [tookR, backX, hk, this, hnn]
  · have e : putB u = (varB (turned u.i), 0) := by simp [putB, hk]
    have := var_read (turned u.i) (turned_top h.good.gi) rest
    rw [e]
    simp [tookR, backX, hk, this, back_turned u.i h.good.gi]
  · have e : putB u = (u.id, 0) := by simp [putB, hk]
    have hl := h.good.len
    have e2 : idR (u.id ++ rest) 0 = (u.id, rest, 0) := by
      unfold idR
      rw [if_pos rfl, if_neg (by simp; omega), ← hl]
      simp
    rw [e]
    simp [tookR, backX, hk, e2]
  · have e : putB u = (pointB u.p.1 u.p.2, 0) := by simp [putB, hk]
    have e2 : pointR (pointB u.p.1 u.p.2 ++ rest) 0 = (u.p, rest, 0) := by
      simp only [pointB, pointR, List.cons_append, List.nil_append, if_true]
      rw [pair_back _ h.good.px, pair_back _ h.good.py]
    rw [e]
    simp [tookR, backX, hk, e2]
  · have e : putB u = (varB u.t.length ++ u.t, 0) := by simp [putB, hk]
    have h1 := var_read u.t.length (text_top h hk) (u.t ++ rest)
    have h2 := next_full u.t.length u.t rest rfl
    have hr := h.room hk
    have e2 : textR u.w (varB u.t.length ++ (u.t ++ rest)) 0 = (u.t, rest, 0) := by
      unfold textR
      rw [h1, if_neg (by omega), if_neg (by show ¬ u.w < ((u.t.length : Nat) : Int); omega), if_neg (by simp)]
      exact h2
    rw [e, List.append_assoc]
    simp [tookR, backX, hk, e2]
def Bnd (n j : Nat) : Prop := n ≤ j * 1048587
theorem block_apart {v v' : Value} {n : Nat} {F : Nat → Prop} (h : v'.ownBlock = v.ownBlock ∨ ∃ b, v'.ownBlock = some b ∧ n ≤ b) (hF : ∀ k, v.ownBlock = some k → ¬ F k) (hlt : ∀ k, F k → k < n) : ∀ k, v'.ownBlock = some k → ¬ F k := by
  intro k hk q
  rcases h with h | ⟨b, h, hb⟩
  · rw [h] at hk
    exact hF k hk q
  · rw [h] at hk
    cases hk
    have := hlt _ q
    omega
structure RowOK (w : World) (r : Th × Option Addr × Nat) : Prop where
  good : Good r.1
  ok : (putB r.1).2 = 0
  len : r.1.t.length ≤ 1048576
  cap : r.1.t.length ≤ r.2.2
  text : Kd.C (Kd.int .u8) w r.2.1 r.1.t.length r.1.t
theorem rows_more {w : World} {rows : List (Th × Option Addr × Nat)} {x : Th × Option Addr × Nat} (h : ∀ r ∈ rows, RowOK w r) (hx : RowOK w x) : ∀ r ∈ rows ++ [x], RowOK w r := by
  intro r hr
  rcases List.mem_append.1 hr with q | q
  · exact h r q
  · rw [List.mem_singleton.1 q]
    exact hx
theorem taken_more {rows : List (Th × Option Addr × Nat)} {x : Th × Option Addr × Nat} (h : ∀ r ∈ rows, Taken r.1) (hx : Taken x.1) : ∀ r ∈ rows ++ [x], Taken r.1 := by
  intro r hr
  rcases List.mem_append.1 hr with q | q
  · exact h r q
  · rw [List.mem_singleton.1 q]
    exact hx
theorem reps_single {α : Type} {R : α → List Value → Prop} {size : Nat} {x : α} {cs : List Value} (h : R x cs) (hl : cs.length = size) : Reps R size [x] cs := by
  refine ⟨by simp [hl], fun j p hj => ?_⟩
  have h0 : j = 0 := by
    have := (List.getElem?_eq_some_iff.1 hj).1
    simpa using this
  subst h0
  have hp : x = p := by simpa using hj
  rw [← hp, Nat.zero_mul, List.drop_zero, List.take_of_length_le (by omega)]
  exact h
/-- a thing as it is read: a text's width is its length -/
def setT (u : Th) : Th := if kindOf u.kind = 6 then setW u u.t.length else u
theorem setT_ok {u : Th} (hg : Good u) (hok : (putB u).2 = 0) (hl : u.t.length ≤ 1048576) : Taken (setT u) ∧ putB (setT u) = putB u := by
  unfold setT
  by_cases h : kindOf u.kind = 6
  · rw [if_pos h]
    have hp : putB (setW u u.t.length) = putB u := by
      unfold putB setW
      simp only [Th.kind, Th.n, Th.w, Th.i, Th.id, Th.p, Th.t] at h ⊢
      simp [h]
    refine ⟨⟨⟨hg.gn, hg.gi, ?_, hg.len, hg.gid, hg.gt, hg.px, hg.py⟩, by rw [hp]; exact hok, fun hk => ?_⟩, hp⟩
    · show -9223372036854775808 ≤ (u.t.length : Int) ∧ (u.t.length : Int) ≤ 9223372036854775807
      omega
    · show (u.t.length : Int) ≤ (u.t.length : Int)
      omega
  · rw [if_neg h]
    exact ⟨⟨hg, hok, fun hk => absurd hk h⟩, rfl⟩
theorem forms_bytes {w : World} : ∀ (rows : List (Th × Option Addr × Nat)), (∀ r ∈ rows, RowOK w r) → IsBytes (forms (rows.map (fun r => r.1))) := by
  intro rows h x hx
  unfold forms at hx
  obtain ⟨u, hu, hxu⟩ := List.mem_flatMap.1 hx
  obtain ⟨r, hr, rfl⟩ := List.mem_map.1 hu
  have h1 := setT_ok (h r hr).good (h r hr).ok (h r hr).len
  exact put_bytes h1.1 x (by rw [h1.2]; exact hxu)
theorem took_its {w : World} {u : Th} {A : Option Addr} {c : Nat} (h : RowOK w (u, A, c)) (rest : List Int) : tookR (setT u) ((putB u).1 ++ rest) 0 = (backX (setT u), rest, 0) := by
  have h1 := setT_ok h.good h.ok h.len
  have h2 := took_back h1.1 rest
  rwa [h1.2] at h2
theorem bnd_zero : Bnd ([] : List Int).length 0 := Nat.zero_le _
theorem bnd_next {n j : Nat} (h : Bnd n j) : Bnd n (j + 1) := Nat.le_trans h (Nat.mul_le_mul_right _ (Nat.le_succ j))
theorem bnd_step {n m j : Nat} (h : Bnd n j) (hm : m ≤ 1048587) : Bnd (n + m) (j + 1) := by
  unfold Bnd at *
  rw [Nat.succ_mul]
  omega
theorem bnd_top {n j : Nat} (h : Bnd n j) (hj : j ≤ 1048576) : n ≤ 1099523162112 := by
  unfold Bnd at h
  have : j * 1048587 ≤ 1048576 * 1048587 := Nat.mul_le_mul_right _ hj
  have e : 1048576 * 1048587 = 1099523162112 := by decide +kernel
  omega
attribute [local go_sem] max2_int min2_int max_two min_two max_three min_three max_four min_four   -- for this text's walks alone
set_option linter.unusedVariables false
set_option maxHeartbeats 8000000 in
set_option maxRecDepth 100000 in
theorem back_walk (A1 : Option Addr) (c1 : Nat) (ts : List Th) (w : World) (h1 : Kd.C kTh w A1 ts.length ts) (hl1 : ts.length ≤ 1048576) (ht : ∀ t ∈ ts, Good t ∧ t.t.length ≤ 1048576) :
    Calls Try.prog 10 #[.slice A1 ts.length c1] w fun e w' => e = .returned (.bool true) ∧ Below w.heap.size w w' := by
  have H1 := Aside0.mk h1
  have HLT := Aside0.mk hl1
  have HT := Aside0.mk ht
  clear h1 hl1 ht
  go_enter Try.func10, Try.ntmps10
  go_wp2_with fail
  refine (cabstandlaw02_lives.calls true w rfl).mono ?_
  rintro e w1 ⟨rfl, hb⟩
  have HB := Aside0.mk hb
  clear hb
  go_wp2_with fail
  refine (NewWriter_calls w1).mono ?_
  rintro e w3 ⟨rfl, hw, hb⟩
  have HW3 := Aside0.mk hw
  have HB3 := Aside0.mk (below_then HB.out HB.out.size hb)
  have HBW : Aside0 (w.heap.size ≤ w1.heap.size) := ⟨HB.out.size⟩
  clear hb hw HB
  generalize w1.heap.size = bw at HW3 HBW ⊢
  go_wp2
  go_loopg [4, 5, 6] ts.length (fun kq v6 v7 v8 wr => ∃ (j : Nat) (rows : List (Th × Option Addr × Nat)), v7 = .int .i64 j ∧ Aside0 (j + kq = ts.length) ∧ Aside0 (∃ vw wl, WAt wr bw bw vw wl ∧ wl = forms (rows.map (fun r => r.1)) ∧ Bnd wl.length j ∧ rows.length ≤ j ∧ (∀ k, v6.ownBlock = some k → ¬ fp bw vw k)) ∧ Aside0 (∀ r ∈ rows, RowOK w r) ∧ Aside0 (Kd.R kTs 46 wr w.heap.size (fun _ => True) v6 (rows.map (fun r => tsOf r.1 r.2.1 r.2.2))) ∧ Aside0 (Below w.heap.size w wr) ∧ Aside0 (bw ≤ wr.heap.size))
  case atStart => exact ⟨0, [], rfl, ⟨by omega⟩, ⟨_, _, HW3.out, rfl, bnd_zero, Nat.le_refl _, fun k hk => by simp [Value.ownBlock] at hk⟩, ⟨fun r hr => by simp at hr⟩, ⟨Kd.R_nil _ _ _ _ _⟩, HB3, ⟨by have := (HW3.out.lt bw (Or.inl rfl)).2; omega⟩⟩
  case round =>
    obtain ⟨j, rows, rfl, HJ, HS, HTK, HR6, HBB, HSZ⟩ := hrel
    obtain ⟨A6, c6, he6⟩ := Kd.R_slice HR6.out
    rw [List.length_map] at he6
    subst he6
    obtain ⟨vw, wl, hw, hwf, hwl, hrl, hfp⟩ := HS.out
    have HW := Aside0.mk hw
    have HWF := Aside0.mk hwf
    have HWL := Aside0.mk hwl
    have HRL := Aside0.mk hrl
    have HFP := Aside0.mk hfp
    clear hw hwf hwl hrl hfp HS
    cases gk with
    | zero =>
      as_aux_lemma =>
        have hjl : ¬ (j : Int) < ts.length := by have := HJ.out; omega
        have HJT : Aside0 (j ≤ 1048576) := ⟨by have := HJ.out; have := HLT.out; omega⟩
        have HWB : Aside0 (wl.length ≤ 140737488355328) := ⟨by have := bnd_top HWL.out HJT.out; omega⟩
        go_wp2_with fail
        refine (wBytes_calls bw bw vw wl _ HW.out HWB.out).mono ?_
        rintro e5 w5 ⟨rfl, hblk, hb⟩
        have HB5 := Aside0.mk (below_then HBB.out HBB.out.size hb)
        have HR65 := Aside0.mk (Kd.R_below HR6.out hb)
        have hCk : Kd.C (Kd.int .u8) w5 (some ⟨wr.heap.size, 0, none⟩) wl.length wl := bytes_at hblk (by have := HWB.out; omega)
        clear hb hblk HR6 HW HBB
        go_wp2_with fail
        refine (NewReader_calls (some ⟨wr.heap.size, 0, none⟩) wl.length wl _ hCk (by have := HWB.out; omega)).mono ?_
        rintro e7 w7 ⟨g, rfl, hr, hb⟩
        have HR7 := Aside0.mk (hr.lower HB5.out.size)
        have HSZ7 : Aside0 (w5.heap.size ≤ w7.heap.size) := ⟨hb.size⟩
        have HB7 := Aside0.mk (below_then HB5.out HB5.out.size hb)
        have HR67 := Aside0.mk (Kd.R_below HR65.out hb)
        have HGE : Aside0 (w5.heap.size ≤ g) := ⟨hr.ge⟩
        have HRF : Aside0 (∀ k, rfp g (.slice (some ⟨w5.heap.size, 0, none⟩) wl.length wl.length) k → w5.heap.size ≤ k) := ⟨fun k hk => by
          rcases hk with hk | hk
          · subst hk; exact HGE.out
          · cases hk; exact Nat.le_refl _⟩
        have HLT6 : Aside0 (∀ k, (Value.slice A6 rows.length c6).ownBlock = some k → k < w5.heap.size) := ⟨fun k hk => Kd.R_lt HR65.out k hk⟩
        clear hr hb hCk HR65 HB5
        go_wp2
        go_loopg [8, 9, 10, 11, 12] rows.length (fun kq v8_ v9_ v10_ v11_ v12_ w2 => ∃ (i : Nat), v8_ = .int .i64 i ∧ Aside0 (i + kq = rows.length) ∧ Aside0 (∃ v l, RAt w2 w.heap.size g v l 0 ∧ (∀ k, rfp g v k → w5.heap.size ≤ k) ∧ l = forms ((rows.drop i).map (fun r => r.1))) ∧ Aside0 (Kd.R kTs 46 w2 w.heap.size (fun _ => True) (.slice A6 rows.length c6) (rows.map (fun r => tsOf r.1 r.2.1 r.2.2))) ∧ Aside0 (Below w.heap.size w w2) ∧ Aside0 (w5.heap.size ≤ w2.heap.size))
        case atStart => exact ⟨0, rfl, ⟨by omega⟩, ⟨_, _, HR7.out, HRF.out, by rw [List.drop_zero]; exact HWF.out⟩, HR67, HB7, HSZ7⟩
        case round =>
          obtain ⟨i, rfl, HI, HS2, HRR, HBI, HSI⟩ := hrel
          obtain ⟨v, l, hr, hrf, hlf⟩ := HS2.out
          have HR := Aside0.mk hr
          have HRF2 := Aside0.mk hrf
          have HLF := Aside0.mk hlf
          clear hr hrf hlf HS2
          cases gk with
          | zero =>
            have hil : ¬ (i : Int) < rows.length := by have := HI.out; omega
            have hl : l = [] := by rw [HLF.out, List.drop_eq_nil_of_le (by have := HI.out; omega)]; rfl
            subst hl
            go_wp2_with fail
            refine (rEnd_calls _ g _ _ _ _ HR.out).mono ?_
            rw [show endR [] 0 = 0 by decide]
            rintro e8 w8 ⟨rfl, rfl⟩
            go_wp2_with fail
            refine (rLeft_calls _ g _ _ _ _ HR.out).mono ?_
            rintro e9 w9 ⟨rfl, rfl⟩
            go_wp2
            go_ret
            exact ⟨rfl, HBI.out⟩
          | succ k2 =>
            have hi : i < rows.length := by have := HI.out; omega
            have hCR := (Kd.R_reads' HRR.out).2.2
            rw [List.length_map] at hCR
            obtain ⟨r, a6, hri, ha6, hcells⟩ := ts_at hCR hi
            subst ha6
            obtain ⟨u, Au, cu⟩ := r
            have HU : Aside0 (RowOK w (u, Au, cu)) := ⟨HTK.out (u, Au, cu) (List.mem_of_getElem? hri)⟩
            have HBY : Aside0 (IsBytes l) := ⟨by rw [HLF.out, List.map_drop]; exact fun x hx => forms_bytes (rows.drop i) (fun r hr => HTK.out r (List.mem_of_mem_drop hr)) x (by rw [List.map_drop]; exact hx)⟩
            obtain ⟨lr, hlr⟩ : ∃ lr, lr = forms ((rows.drop (i + 1)).map (fun r => r.1)) := ⟨_, rfl⟩
            have HTB : Aside0 (tookR (setT u) l 0 = (backX (setT u), lr, 0)) := ⟨by
              have hri2 : rows[i] = (u, Au, cu) := by
                have := List.getElem?_eq_getElem hi
                rw [hri] at this
                exact (Option.some.inj this).symm
              rw [HLF.out, List.drop_eq_getElem_cons hi, hri2, List.map_cons, hlr]
              exact took_its HU.out _⟩
            have HTG : Aside0 (Taken (setT u)) := ⟨(setT_ok HU.out.good HU.out.ok HU.out.len).1⟩
            have HLR := Aside0.mk hlr
            clear hlr HLF
            have r0 : wr.cell? (a6.add (i * 16)) = some (.int .i64 u.1) := hcells 0 _ rfl
            have r1 : wr.cell? ⟨(a6.add (i * 16)).block, (a6.add (i * 16)).off + 1, none⟩ = some (.int .i64 u.kind) := by rw [<- add_next a6 (i * 16) 1 (by decide)]; exact hcells 1 _ rfl
            have r2 : wr.cell? ⟨(a6.add (i * 16)).block, (a6.add (i * 16)).off + 2, none⟩ = some (.int .u64 u.n) := by rw [<- add_next a6 (i * 16) 2 (by decide)]; exact hcells 2 _ rfl
            have r3 : wr.cell? ⟨(a6.add (i * 16)).block, (a6.add (i * 16)).off + 3, none⟩ = some (.int .i64 u.i) := by rw [<- add_next a6 (i * 16) 3 (by decide)]; exact hcells 3 _ rfl
            have r4 : wr.cell? ⟨(a6.add (i * 16)).block, (a6.add (i * 16)).off + 4, none⟩ = some (.int .i64 u.w) := by rw [<- add_next a6 (i * 16) 4 (by decide)]; exact hcells 4 _ rfl
            have r5 : wr.cell? ⟨(a6.add (i * 16)).block, (a6.add (i * 16)).off + 5, none⟩ = some (.int .u8 (rd u.id 0)) := by rw [<- add_next a6 (i * 16) 5 (by decide)]; exact hcells 5 _ rfl
            have r6 : wr.cell? ⟨(a6.add (i * 16)).block, (a6.add (i * 16)).off + 6, none⟩ = some (.int .u8 (rd u.id 1)) := by rw [<- add_next a6 (i * 16) 6 (by decide)]; exact hcells 6 _ rfl
            have r7 : wr.cell? ⟨(a6.add (i * 16)).block, (a6.add (i * 16)).off + 7, none⟩ = some (.int .u8 (rd u.id 2)) := by rw [<- add_next a6 (i * 16) 7 (by decide)]; exact hcells 7 _ rfl
            have r8 : wr.cell? ⟨(a6.add (i * 16)).block, (a6.add (i * 16)).off + 8, none⟩ = some (.int .u8 (rd u.id 3)) := by rw [<- add_next a6 (i * 16) 8 (by decide)]; exact hcells 8 _ rfl
            have r9 : wr.cell? ⟨(a6.add (i * 16)).block, (a6.add (i * 16)).off + 9, none⟩ = some (.int .u8 (rd u.id 4)) := by rw [<- add_next a6 (i * 16) 9 (by decide)]; exact hcells 9 _ rfl
            have r10 : wr.cell? ⟨(a6.add (i * 16)).block, (a6.add (i * 16)).off + 10, none⟩ = some (.int .u8 (rd u.id 5)) := by rw [<- add_next a6 (i * 16) 10 (by decide)]; exact hcells 10 _ rfl
            have r11 : wr.cell? ⟨(a6.add (i * 16)).block, (a6.add (i * 16)).off + 11, none⟩ = some (.int .u8 (rd u.id 6)) := by rw [<- add_next a6 (i * 16) 11 (by decide)]; exact hcells 11 _ rfl
            have r12 : wr.cell? ⟨(a6.add (i * 16)).block, (a6.add (i * 16)).off + 12, none⟩ = some (.int .u8 (rd u.id 7)) := by rw [<- add_next a6 (i * 16) 12 (by decide)]; exact hcells 12 _ rfl
            have r13 : wr.cell? ⟨(a6.add (i * 16)).block, (a6.add (i * 16)).off + 13, none⟩ = some (.int .i16 u.p.1) := by rw [<- add_next a6 (i * 16) 13 (by decide)]; exact hcells 13 _ rfl
            have r14 : wr.cell? ⟨(a6.add (i * 16)).block, (a6.add (i * 16)).off + 14, none⟩ = some (.int .i16 u.p.2) := by rw [<- add_next a6 (i * 16) 14 (by decide)]; exact hcells 14 _ rfl
            have r15 : wr.cell? ⟨(a6.add (i * 16)).block, (a6.add (i * 16)).off + 15, none⟩ = some (.slice Au u.t.length cu) := by rw [<- add_next a6 (i * 16) 15 (by decide)]; exact hcells 15 _ rfl
            clear hcells hri hCR
            have hil : (i : Int) < rows.length := by omega
            have hiL : (i : Int) + 1 ≤ 9223372036854775807 := by have := HRL.out; have := HJT.out; omega
            go_wp2_with fail
            clear r0 r1 r2 r3 r4 r5 r6 r7 r8 r9 r10 r11 r12 r13 r14 r15
            refine (round7_calls u.kind _).mono ?_
            rintro e7 w7_ ⟨rfl, rfl⟩
            rcases kind_cases u.kind with hk | hk | hk | hk | hk | hk | hk
            · as_aux_lemma =>
                rw [hk]
                have HST : Aside0 (setT u = u) := ⟨by unfold setT; rw [if_neg (by omega)]⟩
                rw [HST.out] at HTB HTG
                have HBX : Aside0 (backX u = (0, 0, u.n % 256, 0, 0, zero8, (0, 0), [])) := ⟨by simp [backX, hk]⟩
                rw [HBX.out] at HTB
                clear hk
                go_wp2_with fail
                have hbn := below_new wr (.cells #[.int .i64 u.1, .int .i64 u.kind, .int .u64 u.n, .int .i64 u.i, .int .i64 u.w, .int .u8 (rd u.id 0), .int .u8 (rd u.id 1), .int .u8 (rd u.id 2), .int .u8 (rd u.id 3), .int .u8 (rd u.id 4), .int .u8 (rd u.id 5), .int .u8 (rd u.id 6), .int .u8 (rd u.id 7), .int .i16 u.p.1, .int .i16 u.p.2, .slice Au u.t.length cu] 46)
                have HK5 := Aside0.mk (blk_new wr (.cells #[.int .i64 u.1, .int .i64 u.kind, .int .u64 u.n, .int .i64 u.i, .int .i64 u.w, .int .u8 (rd u.id 0), .int .u8 (rd u.id 1), .int .u8 (rd u.id 2), .int .u8 (rd u.id 3), .int .u8 (rd u.id 4), .int .u8 (rd u.id 5), .int .u8 (rd u.id 6), .int .u8 (rd u.id 7), .int .i16 u.p.1, .int .i16 u.p.2, .slice Au u.t.length cu] 46))
                have HR5 := Aside0.mk (HR.out.keep (F := fun _ => False) (Chg.of_below hbn) (fun _ _ h => h))
                have HB5 := Aside0.mk (below_step HBI.out hbn)
                have HSZ5 := Aside0.mk (Nat.le_trans HSI.out hbn.size)
                have HRR5 := Aside0.mk (Kd.R_below HRR.out hbn)
                have HTN : Aside0 (∀ k, rfp g v k → k < wr.heap.size) := ⟨fun k hk => (HR.out.lt k hk).2⟩
                have HGW : Aside0 (w.heap.size ≤ g) := ⟨HR.out.ge⟩
                have HWW : Aside0 (w.heap.size ≤ wr.heap.size) := ⟨HBI.out.size⟩
                have HRN : Aside0 (∀ k, (Value.slice (some a6) rows.length c6).ownBlock = some k → k < wr.heap.size) := ⟨fun k hk => Kd.R_lt HRR.out k hk⟩
                clear hbn HR HBI HSI HRR
                have htk := took_all w.heap.size g v l HBY.out 0 _ HR5.out u HTG.out.good.gw.2 Au cu
                rw [HTB.out] at htk
                refine htk.mono ?_
                rintro e8 w8 ⟨A8, c8, rfl, hk8, _, _⟩
                rw [show thingOf (0, 0, u.n % 256, 0, 0, zero8, (0, 0), []) A8 c8 = #[.int .i64 0, .int .i64 0, .int .u64 (u.n % 256), .int .i64 0, .int .i64 0, .int .u8 0, .int .u8 0, .int .u8 0, .int .u8 0, .int .u8 0, .int .u8 0, .int .u8 0, .int .u8 0, .int .i16 0, .int .i16 0, .slice A8 0 c8] from rfl]
                have HB8 : Aside0 (Below w.heap.size w w8) := ⟨HB5.out.trans (hk8.below HB5.out.size HGW.out)⟩
                obtain ⟨v8, hr8, hv8, hch⟩ := hk8
                have HR8 := Aside0.mk hr8
                have HRF8 : Aside0 (∀ k, rfp g v8 k → w5.heap.size ≤ k) := ⟨fun k hk => by
                  rcases hk with hk | hk
                  · exact HRF2.out k (Or.inl hk)
                  · exact HRF2.out k (Or.inr (hv8 k hk.symm).symm)⟩
                have HRR8 := Aside0.mk (ts_step HRR5.out (fun k hk => hch.block k (Kd.R_lt HRR5.out k hk) (fun q => by have q' : k = g := q; have h1 := HLT6.out k hk; have h2 := HGE.out; omega)))
                have HK8 := Aside0.mk (hch.heap HK5.out (fun q => by have q' : wr.heap.size = g := q; have h1 := HTN.out g (Or.inl rfl); omega))
                have HSZ8 := Aside0.mk (Nat.le_trans HSZ5.out hch.size)
                clear hr8 hv8 hch HR5 HRR5 HB5 htk HK5 HSZ5
                have hlt8 : wr.heap.size < w8.heap.size := blk_lt HK8.out
                have tc2 : w8.cell? ⟨wr.heap.size, 2, none⟩ = some (.int .u64 u.n) := (blk_cell HK8.out 2).trans rfl
                have hm : Int.tmod u.n 256 = u.n % 256 := Int.tmod_eq_emod_of_nonneg HU.out.good.gn.1
                have hm2 : 0 ≤ u.n % 256 ∧ u.n % 256 < 256 := by omega
                go_wp2
                go_roundg k2
                case measure => omega
                case rel => exact ⟨i + 1, by first | rfl | simp, ⟨by have := HI.out; omega⟩, ⟨_, _, HR8.out.keep (F := fun _ => False) (Chg.alloc (Chg.refl _ _) _) (fun _ _ h => h), HRF8.out, HLR.out⟩, ⟨Kd.R_alloc HRR8.out _⟩, ⟨below_alloc HB8.out _⟩, ⟨by rw [World.size_alloc]; have := HSZ8.out; omega⟩⟩
            · as_aux_lemma =>
                rw [hk]
                have HST : Aside0 (setT u = u) := ⟨by unfold setT; rw [if_neg (by omega)]⟩
                rw [HST.out] at HTB HTG
                have HBX : Aside0 (backX u = (0, 1, u.n, 0, u.w, zero8, (0, 0), [])) := ⟨by simp [backX, hk]⟩
                rw [HBX.out] at HTB
                clear hk
                go_wp2_with fail
                have hbn := below_new wr (.cells #[.int .i64 u.1, .int .i64 u.kind, .int .u64 u.n, .int .i64 u.i, .int .i64 u.w, .int .u8 (rd u.id 0), .int .u8 (rd u.id 1), .int .u8 (rd u.id 2), .int .u8 (rd u.id 3), .int .u8 (rd u.id 4), .int .u8 (rd u.id 5), .int .u8 (rd u.id 6), .int .u8 (rd u.id 7), .int .i16 u.p.1, .int .i16 u.p.2, .slice Au u.t.length cu] 46)
                have HK5 := Aside0.mk (blk_new wr (.cells #[.int .i64 u.1, .int .i64 u.kind, .int .u64 u.n, .int .i64 u.i, .int .i64 u.w, .int .u8 (rd u.id 0), .int .u8 (rd u.id 1), .int .u8 (rd u.id 2), .int .u8 (rd u.id 3), .int .u8 (rd u.id 4), .int .u8 (rd u.id 5), .int .u8 (rd u.id 6), .int .u8 (rd u.id 7), .int .i16 u.p.1, .int .i16 u.p.2, .slice Au u.t.length cu] 46))
                have HR5 := Aside0.mk (HR.out.keep (F := fun _ => False) (Chg.of_below hbn) (fun _ _ h => h))
                have HB5 := Aside0.mk (below_step HBI.out hbn)
                have HSZ5 := Aside0.mk (Nat.le_trans HSI.out hbn.size)
                have HRR5 := Aside0.mk (Kd.R_below HRR.out hbn)
                have HTN : Aside0 (∀ k, rfp g v k → k < wr.heap.size) := ⟨fun k hk => (HR.out.lt k hk).2⟩
                have HGW : Aside0 (w.heap.size ≤ g) := ⟨HR.out.ge⟩
                have HWW : Aside0 (w.heap.size ≤ wr.heap.size) := ⟨HBI.out.size⟩
                have HRN : Aside0 (∀ k, (Value.slice (some a6) rows.length c6).ownBlock = some k → k < wr.heap.size) := ⟨fun k hk => Kd.R_lt HRR.out k hk⟩
                clear hbn HR HBI HSI HRR
                have htk := took_all w.heap.size g v l HBY.out 0 _ HR5.out u HTG.out.good.gw.2 Au cu
                rw [HTB.out] at htk
                refine htk.mono ?_
                rintro e8 w8 ⟨A8, c8, rfl, hk8, _, _⟩
                rw [show thingOf (0, 1, u.n, 0, u.w, zero8, (0, 0), []) A8 c8 = #[.int .i64 0, .int .i64 1, .int .u64 u.n, .int .i64 0, .int .i64 u.w, .int .u8 0, .int .u8 0, .int .u8 0, .int .u8 0, .int .u8 0, .int .u8 0, .int .u8 0, .int .u8 0, .int .i16 0, .int .i16 0, .slice A8 0 c8] from rfl]
                have HB8 : Aside0 (Below w.heap.size w w8) := ⟨HB5.out.trans (hk8.below HB5.out.size HGW.out)⟩
                obtain ⟨v8, hr8, hv8, hch⟩ := hk8
                have HR8 := Aside0.mk hr8
                have HRF8 : Aside0 (∀ k, rfp g v8 k → w5.heap.size ≤ k) := ⟨fun k hk => by
                  rcases hk with hk | hk
                  · exact HRF2.out k (Or.inl hk)
                  · exact HRF2.out k (Or.inr (hv8 k hk.symm).symm)⟩
                have HRR8 := Aside0.mk (ts_step HRR5.out (fun k hk => hch.block k (Kd.R_lt HRR5.out k hk) (fun q => by have q' : k = g := q; have h1 := HLT6.out k hk; have h2 := HGE.out; omega)))
                have HK8 := Aside0.mk (hch.heap HK5.out (fun q => by have q' : wr.heap.size = g := q; have h1 := HTN.out g (Or.inl rfl); omega))
                have HSZ8 := Aside0.mk (Nat.le_trans HSZ5.out hch.size)
                clear hr8 hv8 hch HR5 HRR5 HB5 htk HK5 HSZ5
                have hlt8 : wr.heap.size < w8.heap.size := blk_lt HK8.out
                have tc2 : w8.cell? ⟨wr.heap.size, 2, none⟩ = some (.int .u64 u.n) := (blk_cell HK8.out 2).trans rfl
                skip
                go_wp2
                go_roundg k2
                case measure => omega
                case rel => exact ⟨i + 1, by first | rfl | simp, ⟨by have := HI.out; omega⟩, ⟨_, _, HR8.out.keep (F := fun _ => False) (Chg.alloc (Chg.refl _ _) _) (fun _ _ h => h), HRF8.out, HLR.out⟩, ⟨Kd.R_alloc HRR8.out _⟩, ⟨below_alloc HB8.out _⟩, ⟨by rw [World.size_alloc]; have := HSZ8.out; omega⟩⟩
            · as_aux_lemma =>
                rw [hk]
                have HST : Aside0 (setT u = u) := ⟨by unfold setT; rw [if_neg (by omega)]⟩
                rw [HST.out] at HTB HTG
                have HBX : Aside0 (backX u = (0, 2, u.n, 0, 0, zero8, (0, 0), [])) := ⟨by simp [backX, hk]⟩
                rw [HBX.out] at HTB
                clear hk
                go_wp2_with fail
                have hbn := below_new wr (.cells #[.int .i64 u.1, .int .i64 u.kind, .int .u64 u.n, .int .i64 u.i, .int .i64 u.w, .int .u8 (rd u.id 0), .int .u8 (rd u.id 1), .int .u8 (rd u.id 2), .int .u8 (rd u.id 3), .int .u8 (rd u.id 4), .int .u8 (rd u.id 5), .int .u8 (rd u.id 6), .int .u8 (rd u.id 7), .int .i16 u.p.1, .int .i16 u.p.2, .slice Au u.t.length cu] 46)
                have HK5 := Aside0.mk (blk_new wr (.cells #[.int .i64 u.1, .int .i64 u.kind, .int .u64 u.n, .int .i64 u.i, .int .i64 u.w, .int .u8 (rd u.id 0), .int .u8 (rd u.id 1), .int .u8 (rd u.id 2), .int .u8 (rd u.id 3), .int .u8 (rd u.id 4), .int .u8 (rd u.id 5), .int .u8 (rd u.id 6), .int .u8 (rd u.id 7), .int .i16 u.p.1, .int .i16 u.p.2, .slice Au u.t.length cu] 46))
                have HR5 := Aside0.mk (HR.out.keep (F := fun _ => False) (Chg.of_below hbn) (fun _ _ h => h))
                have HB5 := Aside0.mk (below_step HBI.out hbn)
                have HSZ5 := Aside0.mk (Nat.le_trans HSI.out hbn.size)
                have HRR5 := Aside0.mk (Kd.R_below HRR.out hbn)
                have HTN : Aside0 (∀ k, rfp g v k → k < wr.heap.size) := ⟨fun k hk => (HR.out.lt k hk).2⟩
                have HGW : Aside0 (w.heap.size ≤ g) := ⟨HR.out.ge⟩
                have HWW : Aside0 (w.heap.size ≤ wr.heap.size) := ⟨HBI.out.size⟩
                have HRN : Aside0 (∀ k, (Value.slice (some a6) rows.length c6).ownBlock = some k → k < wr.heap.size) := ⟨fun k hk => Kd.R_lt HRR.out k hk⟩
                clear hbn HR HBI HSI HRR
                have htk := took_all w.heap.size g v l HBY.out 0 _ HR5.out u HTG.out.good.gw.2 Au cu
                rw [HTB.out] at htk
                refine htk.mono ?_
                rintro e8 w8 ⟨A8, c8, rfl, hk8, _, _⟩
                rw [show thingOf (0, 2, u.n, 0, 0, zero8, (0, 0), []) A8 c8 = #[.int .i64 0, .int .i64 2, .int .u64 u.n, .int .i64 0, .int .i64 0, .int .u8 0, .int .u8 0, .int .u8 0, .int .u8 0, .int .u8 0, .int .u8 0, .int .u8 0, .int .u8 0, .int .i16 0, .int .i16 0, .slice A8 0 c8] from rfl]
                have HB8 : Aside0 (Below w.heap.size w w8) := ⟨HB5.out.trans (hk8.below HB5.out.size HGW.out)⟩
                obtain ⟨v8, hr8, hv8, hch⟩ := hk8
                have HR8 := Aside0.mk hr8
                have HRF8 : Aside0 (∀ k, rfp g v8 k → w5.heap.size ≤ k) := ⟨fun k hk => by
                  rcases hk with hk | hk
                  · exact HRF2.out k (Or.inl hk)
                  · exact HRF2.out k (Or.inr (hv8 k hk.symm).symm)⟩
                have HRR8 := Aside0.mk (ts_step HRR5.out (fun k hk => hch.block k (Kd.R_lt HRR5.out k hk) (fun q => by have q' : k = g := q; have h1 := HLT6.out k hk; have h2 := HGE.out; omega)))
                have HK8 := Aside0.mk (hch.heap HK5.out (fun q => by have q' : wr.heap.size = g := q; have h1 := HTN.out g (Or.inl rfl); omega))
                have HSZ8 := Aside0.mk (Nat.le_trans HSZ5.out hch.size)
                clear hr8 hv8 hch HR5 HRR5 HB5 htk HK5 HSZ5
                have hlt8 : wr.heap.size < w8.heap.size := blk_lt HK8.out
                have tc2 : w8.cell? ⟨wr.heap.size, 2, none⟩ = some (.int .u64 u.n) := (blk_cell HK8.out 2).trans rfl
                skip
                go_wp2
                go_roundg k2
                case measure => omega
                case rel => exact ⟨i + 1, by first | rfl | simp, ⟨by have := HI.out; omega⟩, ⟨_, _, HR8.out.keep (F := fun _ => False) (Chg.alloc (Chg.refl _ _) _) (fun _ _ h => h), HRF8.out, HLR.out⟩, ⟨Kd.R_alloc HRR8.out _⟩, ⟨below_alloc HB8.out _⟩, ⟨by rw [World.size_alloc]; have := HSZ8.out; omega⟩⟩
            · as_aux_lemma =>
                rw [hk]
                have HST : Aside0 (setT u = u) := ⟨by unfold setT; rw [if_neg (by omega)]⟩
                rw [HST.out] at HTB HTG
                have HBX : Aside0 (backX u = (0, 3, 0, u.i, 0, zero8, (0, 0), [])) := ⟨by simp [backX, hk]⟩
                rw [HBX.out] at HTB
                clear hk
                go_wp2_with fail
                have hbn := below_new wr (.cells #[.int .i64 u.1, .int .i64 u.kind, .int .u64 u.n, .int .i64 u.i, .int .i64 u.w, .int .u8 (rd u.id 0), .int .u8 (rd u.id 1), .int .u8 (rd u.id 2), .int .u8 (rd u.id 3), .int .u8 (rd u.id 4), .int .u8 (rd u.id 5), .int .u8 (rd u.id 6), .int .u8 (rd u.id 7), .int .i16 u.p.1, .int .i16 u.p.2, .slice Au u.t.length cu] 46)
                have HK5 := Aside0.mk (blk_new wr (.cells #[.int .i64 u.1, .int .i64 u.kind, .int .u64 u.n, .int .i64 u.i, .int .i64 u.w, .int .u8 (rd u.id 0), .int .u8 (rd u.id 1), .int .u8 (rd u.id 2), .int .u8 (rd u.id 3), .int .u8 (rd u.id 4), .int .u8 (rd u.id 5), .int .u8 (rd u.id 6), .int .u8 (rd u.id 7), .int .i16 u.p.1, .int .i16 u.p.2, .slice Au u.t.length cu] 46))
                have HR5 := Aside0.mk (HR.out.keep (F := fun _ => False) (Chg.of_below hbn) (fun _ _ h => h))
                have HB5 := Aside0.mk (below_step HBI.out hbn)
                have HSZ5 := Aside0.mk (Nat.le_trans HSI.out hbn.size)
                have HRR5 := Aside0.mk (Kd.R_below HRR.out hbn)
                have HTN : Aside0 (∀ k, rfp g v k → k < wr.heap.size) := ⟨fun k hk => (HR.out.lt k hk).2⟩
                have HGW : Aside0 (w.heap.size ≤ g) := ⟨HR.out.ge⟩
                have HWW : Aside0 (w.heap.size ≤ wr.heap.size) := ⟨HBI.out.size⟩
                have HRN : Aside0 (∀ k, (Value.slice (some a6) rows.length c6).ownBlock = some k → k < wr.heap.size) := ⟨fun k hk => Kd.R_lt HRR.out k hk⟩
                clear hbn HR HBI HSI HRR
                have htk := took_all w.heap.size g v l HBY.out 0 _ HR5.out u HTG.out.good.gw.2 Au cu
                rw [HTB.out] at htk
                refine htk.mono ?_
                rintro e8 w8 ⟨A8, c8, rfl, hk8, _, _⟩
                rw [show thingOf (0, 3, 0, u.i, 0, zero8, (0, 0), []) A8 c8 = #[.int .i64 0, .int .i64 3, .int .u64 0, .int .i64 u.i, .int .i64 0, .int .u8 0, .int .u8 0, .int .u8 0, .int .u8 0, .int .u8 0, .int .u8 0, .int .u8 0, .int .u8 0, .int .i16 0, .int .i16 0, .slice A8 0 c8] from rfl]
                have HB8 : Aside0 (Below w.heap.size w w8) := ⟨HB5.out.trans (hk8.below HB5.out.size HGW.out)⟩
                obtain ⟨v8, hr8, hv8, hch⟩ := hk8
                have HR8 := Aside0.mk hr8
                have HRF8 : Aside0 (∀ k, rfp g v8 k → w5.heap.size ≤ k) := ⟨fun k hk => by
                  rcases hk with hk | hk
                  · exact HRF2.out k (Or.inl hk)
                  · exact HRF2.out k (Or.inr (hv8 k hk.symm).symm)⟩
                have HRR8 := Aside0.mk (ts_step HRR5.out (fun k hk => hch.block k (Kd.R_lt HRR5.out k hk) (fun q => by have q' : k = g := q; have h1 := HLT6.out k hk; have h2 := HGE.out; omega)))
                have HK8 := Aside0.mk (hch.heap HK5.out (fun q => by have q' : wr.heap.size = g := q; have h1 := HTN.out g (Or.inl rfl); omega))
                have HSZ8 := Aside0.mk (Nat.le_trans HSZ5.out hch.size)
                clear hr8 hv8 hch HR5 HRR5 HB5 htk HK5 HSZ5
                have hlt8 : wr.heap.size < w8.heap.size := blk_lt HK8.out
                have tc3 : w8.cell? ⟨wr.heap.size, 3, none⟩ = some (.int .i64 u.i) := (blk_cell HK8.out 3).trans rfl
                skip
                go_wp2
                go_roundg k2
                case measure => omega
                case rel => exact ⟨i + 1, by first | rfl | simp, ⟨by have := HI.out; omega⟩, ⟨_, _, HR8.out.keep (F := fun _ => False) (Chg.alloc (Chg.refl _ _) _) (fun _ _ h => h), HRF8.out, HLR.out⟩, ⟨Kd.R_alloc HRR8.out _⟩, ⟨below_alloc HB8.out _⟩, ⟨by rw [World.size_alloc]; have := HSZ8.out; omega⟩⟩
            · as_aux_lemma =>
                rw [hk]
                have HST : Aside0 (setT u = u) := ⟨by unfold setT; rw [if_neg (by omega)]⟩
                rw [HST.out] at HTB HTG
                have HBX : Aside0 (backX u = (0, 4, 0, 0, 0, u.id, (0, 0), [])) := ⟨by simp [backX, hk]⟩
                rw [HBX.out] at HTB
                clear hk
                go_wp2_with fail
                have hbn := below_new wr (.cells #[.int .i64 u.1, .int .i64 u.kind, .int .u64 u.n, .int .i64 u.i, .int .i64 u.w, .int .u8 (rd u.id 0), .int .u8 (rd u.id 1), .int .u8 (rd u.id 2), .int .u8 (rd u.id 3), .int .u8 (rd u.id 4), .int .u8 (rd u.id 5), .int .u8 (rd u.id 6), .int .u8 (rd u.id 7), .int .i16 u.p.1, .int .i16 u.p.2, .slice Au u.t.length cu] 46)
                have HK5 := Aside0.mk (blk_new wr (.cells #[.int .i64 u.1, .int .i64 u.kind, .int .u64 u.n, .int .i64 u.i, .int .i64 u.w, .int .u8 (rd u.id 0), .int .u8 (rd u.id 1), .int .u8 (rd u.id 2), .int .u8 (rd u.id 3), .int .u8 (rd u.id 4), .int .u8 (rd u.id 5), .int .u8 (rd u.id 6), .int .u8 (rd u.id 7), .int .i16 u.p.1, .int .i16 u.p.2, .slice Au u.t.length cu] 46))
                have HR5 := Aside0.mk (HR.out.keep (F := fun _ => False) (Chg.of_below hbn) (fun _ _ h => h))
                have HB5 := Aside0.mk (below_step HBI.out hbn)
                have HSZ5 := Aside0.mk (Nat.le_trans HSI.out hbn.size)
                have HRR5 := Aside0.mk (Kd.R_below HRR.out hbn)
                have HTN : Aside0 (∀ k, rfp g v k → k < wr.heap.size) := ⟨fun k hk => (HR.out.lt k hk).2⟩
                have HGW : Aside0 (w.heap.size ≤ g) := ⟨HR.out.ge⟩
                have HWW : Aside0 (w.heap.size ≤ wr.heap.size) := ⟨HBI.out.size⟩
                have HRN : Aside0 (∀ k, (Value.slice (some a6) rows.length c6).ownBlock = some k → k < wr.heap.size) := ⟨fun k hk => Kd.R_lt HRR.out k hk⟩
                clear hbn HR HBI HSI HRR
                have htk := took_all w.heap.size g v l HBY.out 0 _ HR5.out u HTG.out.good.gw.2 Au cu
                rw [HTB.out] at htk
                refine htk.mono ?_
                rintro e8 w8 ⟨A8, c8, rfl, hk8, _, _⟩
                rw [show thingOf (0, 4, 0, 0, 0, u.id, (0, 0), []) A8 c8 = #[.int .i64 0, .int .i64 4, .int .u64 0, .int .i64 0, .int .i64 0, .int .u8 (rd u.id 0), .int .u8 (rd u.id 1), .int .u8 (rd u.id 2), .int .u8 (rd u.id 3), .int .u8 (rd u.id 4), .int .u8 (rd u.id 5), .int .u8 (rd u.id 6), .int .u8 (rd u.id 7), .int .i16 0, .int .i16 0, .slice A8 0 c8] from rfl]
                have HB8 : Aside0 (Below w.heap.size w w8) := ⟨HB5.out.trans (hk8.below HB5.out.size HGW.out)⟩
                obtain ⟨v8, hr8, hv8, hch⟩ := hk8
                have HR8 := Aside0.mk hr8
                have HRF8 : Aside0 (∀ k, rfp g v8 k → w5.heap.size ≤ k) := ⟨fun k hk => by
                  rcases hk with hk | hk
                  · exact HRF2.out k (Or.inl hk)
                  · exact HRF2.out k (Or.inr (hv8 k hk.symm).symm)⟩
                have HRR8 := Aside0.mk (ts_step HRR5.out (fun k hk => hch.block k (Kd.R_lt HRR5.out k hk) (fun q => by have q' : k = g := q; have h1 := HLT6.out k hk; have h2 := HGE.out; omega)))
                have HK8 := Aside0.mk (hch.heap HK5.out (fun q => by have q' : wr.heap.size = g := q; have h1 := HTN.out g (Or.inl rfl); omega))
                have HSZ8 := Aside0.mk (Nat.le_trans HSZ5.out hch.size)
                clear hr8 hv8 hch HR5 HRR5 HB5 htk HK5 HSZ5
                have hlt8 : wr.heap.size < w8.heap.size := blk_lt HK8.out
                have tc5 : w8.cell? ⟨wr.heap.size, 5, none⟩ = some (.int .u8 (rd u.id 0)) := (blk_cell HK8.out 5).trans rfl
                have tc6 : w8.cell? ⟨wr.heap.size, 6, none⟩ = some (.int .u8 (rd u.id 1)) := (blk_cell HK8.out 6).trans rfl
                have tc7 : w8.cell? ⟨wr.heap.size, 7, none⟩ = some (.int .u8 (rd u.id 2)) := (blk_cell HK8.out 7).trans rfl
                have tc8 : w8.cell? ⟨wr.heap.size, 8, none⟩ = some (.int .u8 (rd u.id 3)) := (blk_cell HK8.out 8).trans rfl
                have tc9 : w8.cell? ⟨wr.heap.size, 9, none⟩ = some (.int .u8 (rd u.id 4)) := (blk_cell HK8.out 9).trans rfl
                have tc10 : w8.cell? ⟨wr.heap.size, 10, none⟩ = some (.int .u8 (rd u.id 5)) := (blk_cell HK8.out 10).trans rfl
                have tc11 : w8.cell? ⟨wr.heap.size, 11, none⟩ = some (.int .u8 (rd u.id 6)) := (blk_cell HK8.out 11).trans rfl
                have tc12 : w8.cell? ⟨wr.heap.size, 12, none⟩ = some (.int .u8 (rd u.id 7)) := (blk_cell HK8.out 12).trans rfl
                have hid := fun W => eq_id (rd u.id 0) (rd u.id 1) (rd u.id 2) (rd u.id 3) (rd u.id 4) (rd u.id 5) (rd u.id 6) (rd u.id 7) W
                go_wp2
                go_roundg k2
                case measure => omega
                case rel => exact ⟨i + 1, by first | rfl | simp, ⟨by have := HI.out; omega⟩, ⟨_, _, HR8.out.keep (F := fun _ => False) (Chg.alloc (Chg.refl _ _) _) (fun _ _ h => h), HRF8.out, HLR.out⟩, ⟨Kd.R_alloc HRR8.out _⟩, ⟨below_alloc HB8.out _⟩, ⟨by rw [World.size_alloc]; have := HSZ8.out; omega⟩⟩
            · as_aux_lemma =>
                rw [hk]
                have HST : Aside0 (setT u = u) := ⟨by unfold setT; rw [if_neg (by omega)]⟩
                rw [HST.out] at HTB HTG
                have HBX : Aside0 (backX u = (0, 5, 0, 0, 0, zero8, u.p, [])) := ⟨by simp [backX, hk]⟩
                rw [HBX.out] at HTB
                clear hk
                go_wp2_with fail
                have hbn := below_new wr (.cells #[.int .i64 u.1, .int .i64 u.kind, .int .u64 u.n, .int .i64 u.i, .int .i64 u.w, .int .u8 (rd u.id 0), .int .u8 (rd u.id 1), .int .u8 (rd u.id 2), .int .u8 (rd u.id 3), .int .u8 (rd u.id 4), .int .u8 (rd u.id 5), .int .u8 (rd u.id 6), .int .u8 (rd u.id 7), .int .i16 u.p.1, .int .i16 u.p.2, .slice Au u.t.length cu] 46)
                have HK5 := Aside0.mk (blk_new wr (.cells #[.int .i64 u.1, .int .i64 u.kind, .int .u64 u.n, .int .i64 u.i, .int .i64 u.w, .int .u8 (rd u.id 0), .int .u8 (rd u.id 1), .int .u8 (rd u.id 2), .int .u8 (rd u.id 3), .int .u8 (rd u.id 4), .int .u8 (rd u.id 5), .int .u8 (rd u.id 6), .int .u8 (rd u.id 7), .int .i16 u.p.1, .int .i16 u.p.2, .slice Au u.t.length cu] 46))
                have HR5 := Aside0.mk (HR.out.keep (F := fun _ => False) (Chg.of_below hbn) (fun _ _ h => h))
                have HB5 := Aside0.mk (below_step HBI.out hbn)
                have HSZ5 := Aside0.mk (Nat.le_trans HSI.out hbn.size)
                have HRR5 := Aside0.mk (Kd.R_below HRR.out hbn)
                have HTN : Aside0 (∀ k, rfp g v k → k < wr.heap.size) := ⟨fun k hk => (HR.out.lt k hk).2⟩
                have HGW : Aside0 (w.heap.size ≤ g) := ⟨HR.out.ge⟩
                have HWW : Aside0 (w.heap.size ≤ wr.heap.size) := ⟨HBI.out.size⟩
                have HRN : Aside0 (∀ k, (Value.slice (some a6) rows.length c6).ownBlock = some k → k < wr.heap.size) := ⟨fun k hk => Kd.R_lt HRR.out k hk⟩
                clear hbn HR HBI HSI HRR
                have htk := took_all w.heap.size g v l HBY.out 0 _ HR5.out u HTG.out.good.gw.2 Au cu
                rw [HTB.out] at htk
                refine htk.mono ?_
                rintro e8 w8 ⟨A8, c8, rfl, hk8, _, _⟩
                rw [show thingOf (0, 5, 0, 0, 0, zero8, u.p, []) A8 c8 = #[.int .i64 0, .int .i64 5, .int .u64 0, .int .i64 0, .int .i64 0, .int .u8 0, .int .u8 0, .int .u8 0, .int .u8 0, .int .u8 0, .int .u8 0, .int .u8 0, .int .u8 0, .int .i16 u.p.1, .int .i16 u.p.2, .slice A8 0 c8] from rfl]
                have HB8 : Aside0 (Below w.heap.size w w8) := ⟨HB5.out.trans (hk8.below HB5.out.size HGW.out)⟩
                obtain ⟨v8, hr8, hv8, hch⟩ := hk8
                have HR8 := Aside0.mk hr8
                have HRF8 : Aside0 (∀ k, rfp g v8 k → w5.heap.size ≤ k) := ⟨fun k hk => by
                  rcases hk with hk | hk
                  · exact HRF2.out k (Or.inl hk)
                  · exact HRF2.out k (Or.inr (hv8 k hk.symm).symm)⟩
                have HRR8 := Aside0.mk (ts_step HRR5.out (fun k hk => hch.block k (Kd.R_lt HRR5.out k hk) (fun q => by have q' : k = g := q; have h1 := HLT6.out k hk; have h2 := HGE.out; omega)))
                have HK8 := Aside0.mk (hch.heap HK5.out (fun q => by have q' : wr.heap.size = g := q; have h1 := HTN.out g (Or.inl rfl); omega))
                have HSZ8 := Aside0.mk (Nat.le_trans HSZ5.out hch.size)
                clear hr8 hv8 hch HR5 HRR5 HB5 htk HK5 HSZ5
                have hlt8 : wr.heap.size < w8.heap.size := blk_lt HK8.out
                have tc13 : w8.cell? ⟨wr.heap.size, 13, none⟩ = some (.int .i16 u.p.1) := (blk_cell HK8.out 13).trans rfl
                have tc14 : w8.cell? ⟨wr.heap.size, 14, none⟩ = some (.int .i16 u.p.2) := (blk_cell HK8.out 14).trans rfl
                skip
                go_wp2
                go_roundg k2
                case measure => omega
                case rel => exact ⟨i + 1, by first | rfl | simp, ⟨by have := HI.out; omega⟩, ⟨_, _, HR8.out.keep (F := fun _ => False) (Chg.alloc (Chg.refl _ _) _) (fun _ _ h => h), HRF8.out, HLR.out⟩, ⟨Kd.R_alloc HRR8.out _⟩, ⟨below_alloc HB8.out _⟩, ⟨by rw [World.size_alloc]; have := HSZ8.out; omega⟩⟩
            · as_aux_lemma =>
                rw [hk]
                have HST : Aside0 (setT u = setW u u.t.length) := ⟨by unfold setT; rw [if_pos hk]⟩
                rw [HST.out] at HTB HTG
                have HBX : Aside0 (backX (setW u u.t.length) = (0, 6, 0, 0, 0, zero8, (0, 0), u.t)) := ⟨by
                  have h1 : kindOf (setW u u.t.length).kind = 6 := hk
                  unfold backX
                  rw [h1]
                  rfl⟩
                rw [HBX.out] at HTB
                clear hk
                go_wp2_with fail
                have hbn := below_new wr (.cells #[.int .i64 u.1, .int .i64 u.kind, .int .u64 u.n, .int .i64 u.i, .int .i64 u.t.length, .int .u8 (rd u.id 0), .int .u8 (rd u.id 1), .int .u8 (rd u.id 2), .int .u8 (rd u.id 3), .int .u8 (rd u.id 4), .int .u8 (rd u.id 5), .int .u8 (rd u.id 6), .int .u8 (rd u.id 7), .int .i16 u.p.1, .int .i16 u.p.2, .slice Au u.t.length cu] 46)
                have HK5 := Aside0.mk (blk_new wr (.cells #[.int .i64 u.1, .int .i64 u.kind, .int .u64 u.n, .int .i64 u.i, .int .i64 u.t.length, .int .u8 (rd u.id 0), .int .u8 (rd u.id 1), .int .u8 (rd u.id 2), .int .u8 (rd u.id 3), .int .u8 (rd u.id 4), .int .u8 (rd u.id 5), .int .u8 (rd u.id 6), .int .u8 (rd u.id 7), .int .i16 u.p.1, .int .i16 u.p.2, .slice Au u.t.length cu] 46))
                have HR5 := Aside0.mk (HR.out.keep (F := fun _ => False) (Chg.of_below hbn) (fun _ _ h => h))
                have HB5 := Aside0.mk (below_step HBI.out hbn)
                have HSZ5 := Aside0.mk (Nat.le_trans HSI.out hbn.size)
                have HRR5 := Aside0.mk (Kd.R_below HRR.out hbn)
                have HTN : Aside0 (∀ k, rfp g v k → k < wr.heap.size) := ⟨fun k hk => (HR.out.lt k hk).2⟩
                have HGW : Aside0 (w.heap.size ≤ g) := ⟨HR.out.ge⟩
                have HWW : Aside0 (w.heap.size ≤ wr.heap.size) := ⟨HBI.out.size⟩
                have HRN : Aside0 (∀ k, (Value.slice (some a6) rows.length c6).ownBlock = some k → k < wr.heap.size) := ⟨fun k hk => Kd.R_lt HRR.out k hk⟩
                clear hbn HR HBI HSI HRR
                have htk := took_all w.heap.size g v l HBY.out 0 _ HR5.out (setW u u.t.length) HTG.out.good.gw.2 Au cu
                rw [HTB.out] at htk
                refine htk.mono ?_
                rintro e8 w8 ⟨A8, c8, rfl, hk8, hc8, hC8⟩
                have HC8 : Aside0 (Kd.C (Kd.int .u8) w8 A8 u.t.length u.t) := ⟨hC8⟩
                have HCA : Aside0 (u.t.length ≤ c8) := ⟨hc8⟩
                clear hc8 hC8
                rw [show thingOf (0, 6, 0, 0, 0, zero8, (0, 0), u.t) A8 c8 = #[.int .i64 0, .int .i64 6, .int .u64 0, .int .i64 0, .int .i64 0, .int .u8 0, .int .u8 0, .int .u8 0, .int .u8 0, .int .u8 0, .int .u8 0, .int .u8 0, .int .u8 0, .int .i16 0, .int .i16 0, .slice A8 u.t.length c8] from rfl]
                have HB8 : Aside0 (Below w.heap.size w w8) := ⟨HB5.out.trans (hk8.below HB5.out.size HGW.out)⟩
                obtain ⟨v8, hr8, hv8, hch⟩ := hk8
                have HR8 := Aside0.mk hr8
                have HRF8 : Aside0 (∀ k, rfp g v8 k → w5.heap.size ≤ k) := ⟨fun k hk => by
                  rcases hk with hk | hk
                  · exact HRF2.out k (Or.inl hk)
                  · exact HRF2.out k (Or.inr (hv8 k hk.symm).symm)⟩
                have HRR8 := Aside0.mk (ts_step HRR5.out (fun k hk => hch.block k (Kd.R_lt HRR5.out k hk) (fun q => by have q' : k = g := q; have h1 := HLT6.out k hk; have h2 := HGE.out; omega)))
                have HK8 := Aside0.mk (hch.heap HK5.out (fun q => by have q' : wr.heap.size = g := q; have h1 := HTN.out g (Or.inl rfl); omega))
                have HSZ8 := Aside0.mk (Nat.le_trans HSZ5.out hch.size)
                clear hr8 hv8 hch HR5 HRR5 HB5 htk HK5 HSZ5
                have hlt8 : wr.heap.size < w8.heap.size := blk_lt HK8.out
                have tc15 : w8.cell? ⟨wr.heap.size, 15, none⟩ = some (.slice Au u.t.length cu) := (blk_cell HK8.out 15).trans rfl
                go_wp2_with fail
                refine (same_calls A8 c8 u.t Au cu u.t _ (Kd.C_alloc HC8.out _) HCA.out (Kd.C_alloc (Kd.C_below HU.out.text HB8.out) _) HU.out.cap).mono ?_
                rintro e9 w9 ⟨rfl, hb⟩
                rw [show decide (u.t = u.t) = true from decide_eq_true rfl]
                have HR9 := Aside0.mk (HR8.out.keep (F := fun _ => False) ((Chg.alloc (Chg.refl _ _) _).trans (Chg.of_below hb)) (fun _ _ h => h))
                have HRR9 := Aside0.mk (Kd.R_below (Kd.R_alloc HRR8.out _) hb)
                have HB9 : Aside0 (Below w.heap.size w w9) := ⟨below_then (below_alloc HB8.out _) (by have := HB8.out.size; rw [World.size_alloc]; omega) hb⟩
                have HSZ9 : Aside0 (w5.heap.size ≤ w9.heap.size) := ⟨by have h1 := hb.size; rw [World.size_alloc] at h1; have := HSZ8.out; omega⟩
                clear hb HR8 HRR8 HB8 HSZ8 tc15
                go_wp2
                go_roundg k2
                case measure => omega
                case rel => exact ⟨i + 1, by first | rfl | simp, ⟨by have := HI.out; omega⟩, ⟨_, _, HR9.out, HRF8.out, HLR.out⟩, HRR9, HB9, HSZ9⟩
    | succ k =>
      have hj : j < ts.length := by have := HJ.out; omega
      obtain ⟨t, a, A', c', ht, ha, h8, hlc, hC, q0, q1, q2, q3, q4, q5, q6, q7, q8, q9, q10, q11, q12, q13, q14, q15⟩ := th_at H1.out hj
      subst ha
      have HTG : Aside0 (Good t ∧ t.t.length ≤ 1048576) := ⟨HT.out t (List.mem_of_getElem? ht)⟩
      have HC0 := Aside0.mk hC
      have HLC := Aside0.mk hlc
      have HQ4 := Aside0.mk q4
      clear h8 hlc hC ht
      replace q0 := pw_cell_below HBB.out q0
      replace q1 := pw_cell_below HBB.out q1
      replace q2 := pw_cell_below HBB.out q2
      replace q3 := pw_cell_below HBB.out q3
      replace q4 := pw_cell_below HBB.out q4
      replace q5 := pw_cell_below HBB.out q5
      replace q6 := pw_cell_below HBB.out q6
      replace q7 := pw_cell_below HBB.out q7
      replace q8 := pw_cell_below HBB.out q8
      replace q9 := pw_cell_below HBB.out q9
      replace q10 := pw_cell_below HBB.out q10
      replace q11 := pw_cell_below HBB.out q11
      replace q12 := pw_cell_below HBB.out q12
      replace q13 := pw_cell_below HBB.out q13
      replace q14 := pw_cell_below HBB.out q14
      replace q15 := pw_cell_below HBB.out q15
      have hjl : (j : Int) < ts.length := by omega
      go_wp2_with fail
      have hbn := below_new wr (.cells #[.int .i64 t.1, .int .i64 t.kind, .int .u64 t.n, .int .i64 t.i, .int .i64 t.w, .int .u8 (rd t.id 0), .int .u8 (rd t.id 1), .int .u8 (rd t.id 2), .int .u8 (rd t.id 3), .int .u8 (rd t.id 4), .int .u8 (rd t.id 5), .int .u8 (rd t.id 6), .int .u8 (rd t.id 7), .int .i16 t.p.1, .int .i16 t.p.2, .slice A' t.t.length c'] 46)
      have HKT := Aside0.mk (blk_new wr (.cells #[.int .i64 t.1, .int .i64 t.kind, .int .u64 t.n, .int .i64 t.i, .int .i64 t.w, .int .u8 (rd t.id 0), .int .u8 (rd t.id 1), .int .u8 (rd t.id 2), .int .u8 (rd t.id 3), .int .u8 (rd t.id 4), .int .u8 (rd t.id 5), .int .u8 (rd t.id 6), .int .u8 (rd t.id 7), .int .i16 t.p.1, .int .i16 t.p.2, .slice A' t.t.length c'] 46))
      have HW5 := Aside0.mk (HW.out.below hbn)
      have HB5 := Aside0.mk (below_step HBB.out hbn)
      have HSZ5 := Aside0.mk (Nat.le_trans HSZ.out hbn.size)
      have HR65 := Aside0.mk (Kd.R_below HR6.out hbn)
      have HTLT0 : Aside0 (∀ k, (Value.slice A6 rows.length c6).ownBlock = some k → k < wr.heap.size) := ⟨fun k hk => Kd.R_lt HR6.out k hk⟩
      have HWR0 : Aside0 (w.heap.size ≤ wr.heap.size) := ⟨HBB.out.size⟩
      have HLTB : Aside0 (∀ k, fp bw vw k → k < wr.heap.size) := ⟨fun k hk => (HW.out.lt k hk).2⟩
      have HJT : Aside0 (j < 1048576) := ⟨by have := HLT.out; omega⟩
      clear hbn HW HBB HR6 q0 q1 q2 q3 q4 q5 q6 q7 q8 q9 q10 q11 q12 q13 q14 q15
      have HC5 : Aside0 (Kd.C (Kd.int .u8) (wr.alloc (.cells #[.int .i64 t.1, .int .i64 t.kind, .int .u64 t.n, .int .i64 t.i, .int .i64 t.w, .int .u8 (rd t.id 0), .int .u8 (rd t.id 1), .int .u8 (rd t.id 2), .int .u8 (rd t.id 3), .int .u8 (rd t.id 4), .int .u8 (rd t.id 5), .int .u8 (rd t.id 6), .int .u8 (rd t.id 7), .int .i16 t.p.1, .int .i16 t.p.2, .slice A' t.t.length c'] 46)) A' t.t.length t.t) := ⟨Kd.C_below HC0.out HB5.out⟩
      refine (put_all bw bw vw wl _ HW5.out HSZ5.out t HTG.out.1 A' c' HC5.out (by have := bnd_top HWL.out (Nat.le_of_lt HJT.out); have := HTG.out.2; omega)).mono ?_
      rintro e6 w6 ⟨rfl, hwr⟩
      obtain ⟨vw6, hw6, hmv, hch⟩ := hwr
      have HW6 := Aside0.mk hw6
      have HB6 : Aside0 (Below w.heap.size w w6) := ⟨HB5.out.trans (hch.below HB5.out.size (fun k hk => by have h1 := (HW5.out.lt k hk).1; have := HBW.out; omega))⟩
      have HSZ6 := Aside0.mk (Nat.le_trans HSZ5.out hch.size)
      have HKT6 := Aside0.mk (hch.heap HKT.out (fun hk => by have := HLTB.out _ hk; omega))
      have HR66 := Aside0.mk (ts_step HR65.out (fun k hk => hch.block k (Kd.R_lt HR65.out k hk) (HFP.out k hk)))
      have HFP6 : Aside0 (∀ k, (Value.slice A6 rows.length c6).ownBlock = some k → ¬ fp bw vw6 k) := ⟨fun k hk q => by
        rcases q with q | q
        · exact HFP.out k hk (Or.inl q)
        · rcases hmv k q.symm with h | h
          · exact HFP.out k hk (Or.inr h.symm)
          · have := Kd.R_lt HR65.out k hk; omega⟩
      have HFT6 : Aside0 (¬ fp bw vw6 wr.heap.size) := ⟨fun q => by
        rcases q with q | q
        · have := HLTB.out bw (Or.inl rfl); omega
        · rcases hmv _ q.symm with h | h
          · have := HLTB.out _ (Or.inr h.symm); omega
          · rw [World.size_alloc] at h; omega⟩
      have HTLT : Aside0 (∀ k, (Value.slice A6 rows.length c6).ownBlock = some k → k < wr.heap.size) := HTLT0
      have HWR : Aside0 (w.heap.size ≤ wr.heap.size) := HWR0
      have HSZT : Aside0 (wr.heap.size < w6.heap.size) := ⟨blk_lt HKT6.out⟩
      have hjL : (j : Int) + 1 ≤ 9223372036854775807 := by have := HLT.out; omega
      clear hw6 hmv hch HKT HW5 HB5 HSZ5 HR65 HC5 HSZ
      by_cases hz : (putB t).2 = 0
      · have HPK : Aside0 (RowOK w (t, A', c')) := ⟨⟨HTG.out.1, hz, HTG.out.2, HLC.out, HC0.out⟩⟩
        have HPL := Aside0.mk (put_le t HTG.out.1 HTG.out.2)
        rw [hz]
        have tc0 : w6.cell? ⟨wr.heap.size, 0, none⟩ = some (.int .i64 t.1) := (blk_cell HKT6.out 0).trans rfl
        have tc1 : w6.cell? ⟨wr.heap.size, 1, none⟩ = some (.int .i64 t.kind) := (blk_cell HKT6.out 1).trans rfl
        have tc2 : w6.cell? ⟨wr.heap.size, 2, none⟩ = some (.int .u64 t.n) := (blk_cell HKT6.out 2).trans rfl
        have tc3 : w6.cell? ⟨wr.heap.size, 3, none⟩ = some (.int .i64 t.i) := (blk_cell HKT6.out 3).trans rfl
        have tc4 : w6.cell? ⟨wr.heap.size, 4, none⟩ = some (.int .i64 t.w) := (blk_cell HKT6.out 4).trans rfl
        have tc5 : w6.cell? ⟨wr.heap.size, 5, none⟩ = some (.int .u8 (rd t.id 0)) := (blk_cell HKT6.out 5).trans rfl
        have tc6 : w6.cell? ⟨wr.heap.size, 6, none⟩ = some (.int .u8 (rd t.id 1)) := (blk_cell HKT6.out 6).trans rfl
        have tc7 : w6.cell? ⟨wr.heap.size, 7, none⟩ = some (.int .u8 (rd t.id 2)) := (blk_cell HKT6.out 7).trans rfl
        have tc8 : w6.cell? ⟨wr.heap.size, 8, none⟩ = some (.int .u8 (rd t.id 3)) := (blk_cell HKT6.out 8).trans rfl
        have tc9 : w6.cell? ⟨wr.heap.size, 9, none⟩ = some (.int .u8 (rd t.id 4)) := (blk_cell HKT6.out 9).trans rfl
        have tc10 : w6.cell? ⟨wr.heap.size, 10, none⟩ = some (.int .u8 (rd t.id 5)) := (blk_cell HKT6.out 10).trans rfl
        have tc11 : w6.cell? ⟨wr.heap.size, 11, none⟩ = some (.int .u8 (rd t.id 6)) := (blk_cell HKT6.out 11).trans rfl
        have tc12 : w6.cell? ⟨wr.heap.size, 12, none⟩ = some (.int .u8 (rd t.id 7)) := (blk_cell HKT6.out 12).trans rfl
        have tc13 : w6.cell? ⟨wr.heap.size, 13, none⟩ = some (.int .i16 t.p.1) := (blk_cell HKT6.out 13).trans rfl
        have tc14 : w6.cell? ⟨wr.heap.size, 14, none⟩ = some (.int .i16 t.p.2) := (blk_cell HKT6.out 14).trans rfl
        have tc15 : w6.cell? ⟨wr.heap.size, 15, none⟩ = some (.slice A' t.t.length c') := (blk_cell HKT6.out 15).trans rfl
        have tf4 := blk_frozen HKT6.out 4
        clear hz
        go_wp2_with (first | ((with_reducible refine gate_dst (N := 32) rfl ?_); refine Kd.R_lit kTs _ 46 ?hg (N := 32) ?hd (xs := [tsOf t A' c']) (inner := [.int .i64 t.1, .int .i64 t.kind, .int .u64 t.n, .int .i64 t.i, .int .i64 t.w, .int .u8 (rd t.id 0), .int .u8 (rd t.id 1), .int .u8 (rd t.id 2), .int .u8 (rd t.id 3), .int .u8 (rd t.id 4), .int .u8 (rd t.id 5), .int .u8 (rd t.id 6), .int .u8 (rd t.id 7), .int .i16 t.p.1, .int .i16 t.p.2, .slice A' t.t.length c']) (ok := fun _ => True) (okp := fun _ => True) ?hr ?hp (fun _ hk => hk) trivial (Below.refl _ _) (Nat.le_refl _) (by simp) ?_; (case hd => rfl); (case hg => rfl); (case hr => first | (go_simp; done) | (go_simp; rfl)); (case hp => exact (reps_single (ts_M t A' c' HTG.out.1.len) rfl)); intro v10 w10 ho10 hb hg_ hnew_; have HL10 := Aside0.mk ho10; have HW10 := Aside0.mk (HW6.out.below hb); have HR610 := Aside0.mk (Kd.R_below HR66.out hb); have HB10 := Aside0.mk (below_step HB6.out hb); have HSZ10 := Aside0.mk (Nat.le_trans HSZ6.out hb.size); clear ho10 hb hg_ hnew_ HW6 HR66 HB6 HSZ6; obtain ⟨A10, c10, e10⟩ := Kd.R_slice HL10.out; subst e10) | ((with_reducible refine gate_builtin (b := .append) (xs := #[.tmp 30, .tmp 32]) rfl ?_); at_builtin; refine Kd.R_append_rows kTs (w0 := w) w.heap.size rfl (.tmp 30) (.tmp 32) 32 46 (.agg #[.int .i64 0, .int .i64 0, .int .u64 0, .int .i64 0, .int .i64 0, .int .u8 0, .int .u8 0, .int .u8 0, .int .u8 0, .int .u8 0, .int .u8 0, .int .u8 0, .int .u8 0, .int .i16 0, .int .i16 0, .slice none 0 0]) 80 rfl Try.underlying32 info46 rfl (by decide) (by omega) (.slice A6 rows.length c6) (rows.map (fun r => tsOf r.1 r.2.1 r.2.2)) [tsOf t A' c'] _ _ _ (fun _ => True) (fun _ => False) rfl rfl ?aO ?aR (fun _ _ h => h) (fun _ h => h.elim) ?aF ?aB ?aS ?aL ?_; (case aR => exact (Kd.R_reads' HL10.out).2.2); (case aB => exact HB10.out); (case aF => exact (fun _ _ => trivial)); (case aO => exact HR610.out); (case aS => exact HB10.out.size); (case aL => have := HRL.out; have := HJT.out; simp; omega); intro v11 w11 ho hb2 hg2 hat; have HR611 := Aside0.mk ho; have HB11 := Aside0.mk hb2; have HW11 := Aside0.mk (HW10.out.keep (Chg.of_grown hg2) (fun k hk q => HFP6.out k q.symm hk)); have HSZ11 := Aside0.mk (Nat.le_trans HSZ10.out hg2.size); have HFP11 : Aside0 (∀ k, v11.ownBlock = some k → ¬ fp bw vw6 k) := (⟨fun k hk q => by (exact block_apart hat HFP6.out (fun k q => (HW10.out.lt k q).2) k hk q)⟩); clear ho hb2 hg2 hat HW10 HR610 HB10 HSZ10 HL10))
        go_roundg k
        case measure => omega
        case rel => exact ⟨j + 1, rows ++ [(t, A', c')], by first | rfl | simp, ⟨by have := HJ.out; omega⟩, ⟨_, _, HW11.out, by rw [List.map_append, List.map_cons, List.map_nil, forms_snoc, ← HWF.out], by rw [List.length_append]; exact bnd_step HWL.out HPL.out, by rw [List.length_append]; have := HRL.out; simp; omega, HFP11.out⟩, ⟨fun r hr => by exact rows_more HTK.out HPK.out r hr⟩, ⟨by rw [List.map_append]; exact HR611.out⟩, HB11, HSZ11⟩
      · have c1 : ((putB t).2 == 0) = false := beq_eq_false_iff_ne.mpr hz
        have HNP : Aside0 ((putB t).1 = []) := ⟨by
          unfold putB at hz ⊢
          split at hz
          · exact absurd rfl hz
          · split at hz
            · rename_i h1 h2
              rw [if_neg h1, if_pos h2]
              split at hz
              · rename_i h3; rw [if_pos h3]
              · exact absurd rfl hz
            · split at hz
              · exact absurd rfl hz
              · split at hz
                · exact absurd rfl hz
                · split at hz
                  · exact absurd rfl hz
                  · split at hz
                    · exact absurd rfl hz
                    · exact absurd rfl hz⟩
        rw [HNP.out, List.append_nil] at HW6
        clear hz HNP
        go_wp2
        go_roundg k
        case measure => omega
        case rel => exact ⟨j + 1, rows, by first | rfl | simp, ⟨by have := HJ.out; omega⟩, ⟨_, _, HW6.out, HWF.out, bnd_next HWL.out, by have := HRL.out; omega, HFP6.out⟩, HTK, HR66, HB6, HSZ6⟩
end Go.Proofs.Ytjijmikpoenbcaa.Codec
