/-
  What is at stake of those members that count and that a rule picks: the lists and their sums.
-/
import Derived.Test.YtkfbnaafpikgfaaMb
import Derived.Test.YtkfbnaafpikgfaaOwnC
import Derived.Test.YtkfbnaafpikgfaaBits6
import Derived.Test.YtkfbnaafpikgfaaMoney
namespace Go.Proofs.Ytkfbnaafpikgfaa
open Go.RowKit
set_option linter.unusedVariables false

def oneS (ms : List Mb) (sel : Nat → Bool) (k : Nat) : List Nat := match ms[k]? with
  | some m => if countsB m.status && sel k then [m.s.eff] else []
  | none => []
/-- What is at stake of the first k members. -/
def selL (ms : List Mb) (sel : Nat → Bool) : Nat → List Nat
  | 0 => []
  | k + 1 => selL ms sel k ++ oneS ms sel k
theorem oneS_yes {ms : List Mb} {sel : Nat → Bool} {k : Nat} {m : Mb} (h : ms[k]? = some m) (hc : countsB m.status = true) (hs : sel k = true) : oneS ms sel k = [m.s.eff] := by simp [oneS, h, hc, hs]
theorem oneS_no {ms : List Mb} {sel : Nat → Bool} {k : Nat} {m : Mb} (h : ms[k]? = some m) (hc : countsB m.status = false) : oneS ms sel k = [] := by simp [oneS, h, hc]
theorem oneS_not {ms : List Mb} {sel : Nat → Bool} {k : Nat} {m : Mb} (h : ms[k]? = some m) (hs : sel k = false) : oneS ms sel k = [] := by simp [oneS, h, hs]
theorem selL_len (ms : List Mb) (sel : Nat → Bool) : ∀ k, (selL ms sel k).length ≤ k
  | 0 => by simp [selL]
  | k + 1 => by
    have := selL_len ms sel k
    have h1 : (oneS ms sel k).length ≤ 1 := by unfold oneS; split; split; simp; simp; simp
    rw [selL, List.length_append]; omega
theorem sel_total (l : List Nat) : ∀ a, l.foldl (· + ·) a = a + total l := by
  induction l with
  | nil => intro a; simp [total]
  | cons x r ih => intro a; unfold total at *; simp only [List.foldl_cons]; rw [ih, ih (0 + x)]; omega
theorem total_app (a b : List Nat) : total (a ++ b) = total a + total b := by
  unfold total; rw [List.foldl_append, sel_total]; rfl
theorem total_one (x : Nat) : total [x] = x := by simp [total]
theorem selL_ok {ms : List Mb} (hok : ∀ m ∈ ms, m.s.eff < 18446744073709551616) (sel : Nat → Bool) : ∀ k, ∀ x ∈ selL ms sel k, x < 18446744073709551616
  | 0 => by simp [selL]
  | k + 1 => fun x hx => by
    rw [selL, List.mem_append] at hx
    rcases hx with hx | hx
    · exact selL_ok hok sel k x hx
    · unfold oneS at hx
      split at hx
      · rename_i m hm
        split at hx
        · simp at hx; subst hx; exact hok m (List.mem_of_getElem? hm)
        · simp at hx
      · simp at hx
theorem selL_getD {ms : List Mb} (hok : ∀ m ∈ ms, m.s.eff < 18446744073709551616) (sel : Nat → Bool) (k i : Nat) : (selL ms sel k).getD i 0 < 18446744073709551616 := by
  rw [List.getD_eq_getElem?_getD]
  cases h : (selL ms sel k)[i]? with
  | none => simp
  | some x => simpa using selL_ok hok sel k x (List.mem_of_getElem? h)
theorem selL_le (ms : List Mb) (sel : Nat → Bool) : ∀ k, total (selL ms sel k) ≤ total (selL ms (fun _ => true) k)
  | 0 => Nat.le_refl _
  | k + 1 => by
    have := selL_le ms sel k
    rw [selL, selL, total_app, total_app]
    have h2 : total (oneS ms sel k) ≤ total (oneS ms (fun _ => true) k) := by
      unfold oneS
      cases ms[k]? with
      | none => simp
      | some m => cases countsB m.status <;> cases sel k <;> simp [total_one] <;> simp [total]
    omega
/-- What is told of a sum, if another one is right. -/
def stkP (a t : Nat) : Nat := if a ≤ 18446744073709551615 then t else 0
theorem stkP_le {a t : Nat} (h : a ≤ 18446744073709551615) : stkP a t = t := if_pos h
theorem stkP_gt {a t : Nat} (h : ¬ a ≤ 18446744073709551615) : stkP a t = 0 := if_neg h
def u64C (x : Nat) : Array Value := #[.int .u64 ((x : Nat) : Int)]
theorem u64C_size (x : Nat) : (u64C x).size = 1 := rfl
theorem u64C_one (x : Nat) : allOne (u64C x) = true := by simp [allOne, u64C, Value.oneCell']
theorem u64s_slice {w : World} {A : Option Addr} {xs : List Nat} (h : SliceOf 1 u64C w A xs) : U64s w A xs := fun hn => by
  obtain ⟨b, off, e, hb, hc⟩ := h hn
  refine ⟨b, off, e, hb, fun i hi => ?_⟩
  have := hc i (xs.getD i 0) (by rw [List.getD_eq_getElem?_getD, List.getElem?_eq_getElem hi]; rfl) 0 _ rfl
  rw [Nat.mul_one] at this
  exact this
theorem mb_range {W : World} {b off j : Nat} {m : Mb} (h : W.rangeAt b (off + j * 6) m.cells.toList) : W.cell? ⟨b, off + j * 6, none⟩ = some (.int .u64 m.s.bal) ∧ W.cell? ⟨b, off + j * 6 + 1, none⟩ = some (.int .u64 m.s.eff) ∧ W.cell? ⟨b, off + j * 6 + 2, none⟩ = some (.int .u64 m.s.score) ∧ W.cell? ⟨b, off + j * 6 + 3, none⟩ = some (.int .i64 m.s.streak) ∧ W.cell? ⟨b, off + j * 6 + 4, none⟩ = some (.int .i64 m.owner) ∧ W.cell? ⟨b, off + j * 6 + 5, none⟩ = some (.int .i64 m.status) :=
  ⟨h 0 _ rfl, h 1 _ rfl, h 2 _ rfl, h 3 _ rfl, h 4 _ rfl, h 5 _ rfl⟩
theorem u64s_under : Try.prog.underlying 43 = some (.slice 22) := by kernel_rfl
theorem u64_three : (Try.prog.info? 22).map (fun i => (i.zero, i.size, i.bytes)) = some (some (.int .u64 0), 1, 8) := by kernel_rfl
abbrev OwnU (W : World) (B : Nat) (v : Value) (l : List Nat) : Prop := OwnC 22 1 u64C W B v l
set_option maxRecDepth 100000 in
set_option maxHeartbeats 8000000 in
theorem pstakes_any (A A1 : Option Addr) (n c n1 c1 : Nat) (ms : List Mb) (bs : List Nat) (hn : ms.length = n) (hm : n ≤ 300) (hok : ∀ m ∈ ms, m.s.eff < 18446744073709551616) (h1 : bs.length = n1) (hb : bytesOk bs) (w : World) (hU : SliceOf 6 Mb.cells w A ms) (hV : Bys w A1 bs) :
    Calls Try.prog 31 #[.slice A n c, .slice A1 n1 c1] w fun e w' => e = .returned (.tuple #[.int .u64 ((stkP (total (selL ms (fun _ => true) n)) (total (selL ms (fun k => getB bs k) n)) : Nat) : Int), .int .u64 ((fit (total (selL ms (fun _ => true) n)) : Nat) : Int), .int .i64 (toldE (total (selL ms (fun _ => true) n)))]) ∧ Below w.heap.size w w' := by
  have HU := Lib.hid hU
  have HV := Lib.hid hV
  have HN := Lib.hid hn
  have HLen := Lib.hid (fun sel k => selL_len ms sel k)
  have HG := Lib.hid (fun W i (hi : i ≤ 9223372036854775807) (h : Bys W A1 bs) => get_any A1 n1 c1 bs i h1 hb hi W h)
  have HSum := Lib.hid (fun W A c sel k (h : U64s W A (selL ms sel k)) (hl : (selL ms sel k).length ≤ 9223372036854775807) => msum_any A (selL ms sel k) (selL ms sel k).length c rfl (fun i => selL_getD hok sel k i) hl W h)
  have HLe := Lib.hid (selL_le ms (fun k => getB bs k) n)
  clear hU hV hn hb hok h1
  go_enter Try.func31, Try.ntmps31
  go_wp2_with fail
  go_loopw [13, 7, 8] (fun i u v wr => ∃ (j : Nat) (U V : Value), i = .int .i64 j ∧ U = u ∧ V = v ∧ j ≤ n ∧ Hid (OwnU wr w.heap.size U (selL ms (fun k => getB bs k) j)) ∧ Hid (OwnU wr w.heap.size V (selL ms (fun _ => true) j)) ∧ Hid (Apart U V) ∧ Hid (Below w.heap.size w wr)) (fun i _ _ _ => n - (intOf i).toNat)
  case atStart => exact ⟨0, _, _, rfl, rfl, rfl, by omega, Lib.hid (OwnC.nil _ _), Lib.hid (OwnC.nil _ _), Lib.hid (Apart.nil _), Lib.hid (Below.refl _ _)⟩
  case round =>
    obtain ⟨j, U, V, rfl, rfl, rfl, hj, hOU, hOV, hne, hB⟩ := hrel
    by_cases hlt : j < n
    · obtain ⟨b, off, rfl, hbb, hcell⟩ := HU.out (by rw [HN.out]; omega)
      obtain ⟨m, hxj⟩ : ∃ m, ms[j]? = some m := ⟨_, List.getElem?_eq_getElem (by rw [HN.out]; omega)⟩
      obtain ⟨k0, k1, k2, k3, k4, k5⟩ := mb_range (range_below (hcell j _ hxj) hB.out hbb)
      have z1 : (0 : Int) ≤ (j : Int) := by omega
      have z2 : (j : Int) < (n : Int) := by omega
      have HX := Lib.hid hxj
      have r1 : Hid (row (wr.alloc (.cells m.cells 67)) wr.heap.size = some m.cells) := Lib.hid (row_at _ _ _ _ rfl)
      have B1 : Hid (Below wr.heap.size wr (wr.alloc (.cells m.cells 67))) := Lib.hid (by (repeat (first | exact Below.refl _ _ | assumption | (refine Below.allocT ?_ _) | refine Below.drew ?_ | refine below_drewN ?_ _ | (refine Below.then ?_ (by assumption)) | (refine Below.setRow ?_ ?_ _; rotate_left; (focus (first | exact Nat.lt_succ_self _ | ((repeat rw [World.size_alloc]); omega) | (simp; done) | (simp; omega) | omega))) | (refine Below.setCell ?_ ?_ _; rotate_left; (focus (first | exact Nat.lt_succ_self _ | ((repeat rw [World.size_alloc]); omega) | (simp; done) | (simp; omega) | omega))) | (refine Below.then' ?_ (by assumption) ?_; rotate_left; (focus (first | exact Nat.lt_succ_self _ | ((repeat rw [World.size_alloc]); omega) | (simp; done) | (simp; omega) | omega))) | fail)); (first | done | fail))
      clear hcell hxj
      cases hc : countsB m.status
      · have S1 : Hid (selL ms (fun k => getB bs k) (j + 1) = selL ms (fun k => getB bs k) j) := Lib.hid (by rw [selL, oneS_no HX.out hc, List.append_nil])
        have S2 : Hid (selL ms (fun _ => true) (j + 1) = selL ms (fun _ => true) j) := Lib.hid (by rw [selL, oneS_no HX.out hc, List.append_nil])
        have HC := Lib.hid (fun W => counts_any m W)
        rw [hc] at HC
        clear hc
        go_wp2_with fail
        refine (HC.out _).mono ?_
        rintro e w1 ⟨rfl, hb1⟩
        have B2 := Lib.hid (B1.out.trans (hb1.mono B1.out.size))
        clear hb1
        go_wp2_with fail
        exact ⟨⟨j + 1, _, _, by go_num, rfl, rfl, by omega, by rw [S1.out]; exact Lib.hid (hOU.out.stay B2.out), by rw [S2.out]; exact Lib.hid (hOV.out.stay B2.out), hne, Lib.hid (hB.out.trans (B2.out.mono hB.out.size))⟩, by simp [intOf]; omega⟩
      · have HC := Lib.hid (fun W => counts_any m W)
        rw [hc] at HC
        have S2 : Hid (selL ms (fun _ => true) (j + 1) = selL ms (fun _ => true) j ++ [m.s.eff]) := Lib.hid (by rw [selL, oneS_yes HX.out hc rfl])
        have S1y : Hid (getB bs (j : Int) = true → selL ms (fun k => getB bs k) (j + 1) = selL ms (fun k => getB bs k) j ++ [m.s.eff]) := Lib.hid (fun h => by rw [selL, oneS_yes HX.out hc h])
        have S1n : Hid (getB bs (j : Int) = false → selL ms (fun k => getB bs k) (j + 1) = selL ms (fun k => getB bs k) j) := Lib.hid (fun h => by rw [selL, oneS_not HX.out h, List.append_nil])
        have lu := HLen.out (fun k => getB bs k) j
        have lv := HLen.out (fun _ => true) j
        generalize hLU : selL ms (fun k => getB bs k) j = LU at *
        generalize hLV : selL ms (fun _ => true) j = LV at *
        obtain ⟨pu, hpu⟩ : ∃ p, p = LU.length := ⟨_, rfl⟩
        obtain ⟨pv, hpv⟩ : ∃ p, p = LV.length := ⟨_, rfl⟩
        rw [← hpu] at lu
        rw [← hpv] at lv
        have HPU := Lib.hid hpu
        have HPV := Lib.hid hpv
        clear hc hLU hLV hpu hpv
        go_wp2_with fail
        refine (HC.out _).mono ?_
        rintro e w1 ⟨rfl, hb1⟩
        have r2 := (row_below hb1 (row_lt r1.out)).trans r1.out
        have B2 := Lib.hid (B1.out.trans (hb1.mono B1.out.size))
        have c2 := fun i => row_cell r2 i
        have OU2 := Lib.hid (hOU.out.stay B2.out)
        have OV2 := Lib.hid (hOV.out.stay B2.out)
        have B2w := Lib.hid (hB.out.trans (B2.out.mono hB.out.size))
        have L2 : Hid (wr.heap.size < w1.heap.size) := Lib.hid (row_lt r2)
        have hbx : Hid (some wr.heap.size ≠ V.ownBlock) := Lib.hid fun he => by have := (hOV.out.lt _ he.symm).2; omega
        have hlU := Lib.hid (fun k hk => (hOU.out.lt k hk).2)
        have hlV := Lib.hid (fun k hk => (hOV.out.lt k hk).2)
        have hw1 : Hid (w.heap.size ≤ w1.heap.size) := Lib.hid B2w.out.size
        clear hb1 B1 r1 k0 k1 k2 k3 k4 k5
        go_wp2_with (at_builtin; refine wpList_append_d u64s_under u64_three rfl (by decide) (by decide) u64C_size u64C_one rfl _ _ rfl w.heap.size V LV rfl (OV2.out.stay ((Below.refl _ _).alloc (Nat.le_refl _) _)) _ 1 m.s.eff rfl (row_at _ _ _ _ rfl) pv HPV.out.symm (by rw [← HPV.out]; omega) (by have := hw1.out; simp only [World.size_alloc]; omega) ?_; intro A' cap w3 hO3 hg3 hd3; have HO3 := Lib.hid hO3; have HD3 := Lib.hid hd3; have B3 := Lib.hid (below_grown_c (B2w.out.alloc B2w.out.size _) (Nat.le_refl _) (OV2.out.stay ((Below.refl _ _).alloc (Nat.le_refl _) _)) hg3); have r3 := Lib.hid ((row_grown' hg3 (by simp only [World.size_alloc]; have := L2.out; omega) hbx.out).trans ((row_past _ _ _ L2.out).trans r2)); have OU3 := Lib.hid ((OU2.out.stay ((Below.refl _ _).alloc (Nat.le_refl _) _)).far hg3 hne.out); have hz3 : Hid (w1.heap.size < w3.heap.size) := Lib.hid (by have := hg3.size; simp only [World.size_alloc] at this; omega); clear hO3 hg3 hd3)
        refine (HG.out _ (j : Int) (by omega) (HV.out.below B3.out (Nat.le_refl _))).mono ?_
        rintro e w4 ⟨rfl, hb4⟩
        have B4 := Lib.hid (Below.then B3.out hb4)
        have r4 := (row_below hb4 (row_lt r3.out)).trans r3.out
        have c4 := fun i => row_cell r4 i
        have OU4 := Lib.hid (OU3.out.stay hb4)
        have HO4 := Lib.hid (HO3.out.stay hb4)
        have hz4 : Hid (w1.heap.size < w4.heap.size) := Lib.hid (Nat.lt_of_lt_of_le hz3.out hb4.size)
        have AP4 : Hid (Apart U (.slice A' (pv + 1) cap)) := Lib.hid (hne.out.right HD3.out (fun k hk => by have := hlU.out k hk; have := L2.out; simp; omega))
        clear hb4 r2 c2 OU2 OV2 r3 OU3 HO3 B2
        generalize hsel : getB bs (j : Int) = sj at *
        clear hsel
        cases sj
        · go_wp2_with fail
          exact ⟨⟨j + 1, _, _, by go_num, rfl, rfl, by omega, by rw [S1n.out (by simp)]; exact OU4, by rw [S2.out]; exact HO4, AP4, B4⟩, by simp [intOf]; omega⟩
        · go_wp2_with (at_builtin; refine wpList_append_d u64s_under u64_three rfl (by decide) (by decide) u64C_size u64C_one rfl _ _ rfl w.heap.size U LU rfl (OU4.out.stay ((Below.refl _ _).alloc (Nat.le_refl _) _)) _ 1 m.s.eff rfl (row_at _ _ _ _ rfl) pu HPU.out.symm (by rw [← HPU.out]; omega) (by have := hw1.out; have := hz4.out; simp only [World.size_alloc]; omega) ?_; intro A2' cap2 w5 hO5 hg5 hd5; have HO5 := Lib.hid hO5; have B5 := Lib.hid (below_grown_c (B4.out.alloc B4.out.size _) (Nat.le_refl _) (OU4.out.stay ((Below.refl _ _).alloc (Nat.le_refl _) _)) hg5); have OV5 := Lib.hid ((HO4.out.stay ((Below.refl _ _).alloc (Nat.le_refl _) _)).far hg5 AP4.out.symm); have AP5 : Hid (Apart (.slice A2' (pu + 1) cap2) (.slice A' (pv + 1) cap)) := Lib.hid (AP4.out.left hd5 (fun k hk => by have := (HO4.out.lt k hk).2; simp; omega)); clear hO5 hg5 hd5)
          exact ⟨⟨j + 1, _, _, by go_num, rfl, rfl, by omega, by rw [S1y.out (by simp)]; exact HO5, by rw [S2.out]; exact OV5, AP5, B5⟩, by simp [intOf]; omega⟩
    · obtain rfl : n = j := by omega
      have hOu' := hOU.out
      have hOv' := hOV.out
      obtain ⟨A3, c3, rfl, h3, _, h4⟩ := hOu'.form u64C_size
      obtain ⟨A5, c5, rfl, h5, _, h6⟩ := hOv'.form u64C_size
      have HSu := Lib.hid (HSum.out wr A3 c3 (fun k => getB bs k) n (u64s_slice h3) h4)
      have HSv := Lib.hid (HSum.out wr A5 c5 (fun _ => true) n (u64s_slice h5) h6)
      generalize (selL ms (fun k => getB bs k) n).length = lu at *
      generalize (selL ms (fun _ => true) n).length = lv at *
      have hle := HLe.out
      obtain ⟨tu, htu⟩ : ∃ tu, tu = total (selL ms (fun k => getB bs k) n) := ⟨_, rfl⟩
      obtain ⟨tv, htv⟩ : ∃ tv, tv = total (selL ms (fun _ => true) n) := ⟨_, rfl⟩
      rw [← htu] at HSu hle
      rw [← htv] at HSv hle
      have HTU := Lib.hid htu
      have HTV := Lib.hid htv
      clear htu htv
      clear hOu' hOv' h3 h4 h5 h6 hOU hOV hne HU HLe HSum
      by_cases h7 : tv ≤ 18446744073709551615
      · rw [fit_le (show tu ≤ 18446744073709551615 by omega), told_le (show tu ≤ 18446744073709551615 by omega)] at HSu
        rw [fit_le h7, told_le h7] at HSv
        have H7 := Lib.hid h7
        clear hle h7
        go_wp2_with fail
        refine (HSu.out).mono ?_
        rintro e w2 ⟨rfl, rfl⟩
        go_wp2_with fail
        refine (HSv.out).mono ?_
        rintro e w2 ⟨rfl, rfl⟩
        go_wp2_with fail
        go_ret3
        exact ⟨by rw [← HTU.out, ← HTV.out, stkP_le H7.out, fit_le H7.out, told_le H7.out]; rfl, hB.out⟩
      · rw [fit_gt h7, told_gt h7] at HSv
        have H7 := Lib.hid h7
        by_cases h8 : tu ≤ 18446744073709551615
        · rw [fit_le h8, told_le h8] at HSu
          clear hle h7 h8
          go_wp2_with fail
          refine (HSu.out).mono ?_
          rintro e w2 ⟨rfl, rfl⟩
          go_wp2_with fail
          refine (HSv.out).mono ?_
          rintro e w2 ⟨rfl, rfl⟩
          go_wp2_with fail
          go_ret3
          exact ⟨by rw [← HTU.out, ← HTV.out, stkP_gt H7.out, fit_gt H7.out, told_gt H7.out]; rfl, hB.out⟩
        · rw [fit_gt h8, told_gt h8] at HSu
          clear hle h7 h8
          go_wp2_with fail
          refine (HSu.out).mono ?_
          rintro e w2 ⟨rfl, rfl⟩
          go_wp2_with fail
          go_ret3
          exact ⟨by rw [← HTU.out, ← HTV.out, stkP_gt H7.out, fit_gt H7.out, told_gt H7.out]; rfl, hB.out⟩
end Go.Proofs.Ytkfbnaafpikgfaa
