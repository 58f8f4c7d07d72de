/-
  Layer 19: what of any members is active, and what of them is present.
-/
import Derived.Test.YtkfbnaafpikgfaaSel
import Derived.Test.YtkfbnaafpikgfaaBallot3
import Derived.Test.YtkfbnaafpikgfaaRef01e
import Derived.Test.YtkfbnaafpikgfaaLaw19
import Derived.Test.YtkfbnaafpikgfaaPlain19
namespace Go.Proofs.Ytkfbnaafpikgfaa
open Go.RowKit
set_option linter.unusedVariables false

theorem selL_total' {ms : List Mb} (hok : ∀ m ∈ ms, m.s.eff < 18446744073709551616) (sel : Nat → Bool) (k : Nat) (hk : k ≤ 1000) : (dg (total (selL ms sel k))).length ≤ 1000 := Nat.le_trans (selL_total hok sel k hk) (by omega)
set_option maxRecDepth 100000 in
set_option maxHeartbeats 8000000 in
theorem rstakes_any (A A1 : Option Addr) (n c n1 c1 : Nat) (ms : List Mb) (bs : List Nat) (hn : ms.length = n) (hm : n ≤ 300) (hok : ∀ m ∈ ms, m.s.eff < 18446744073709551616) (h1 : bs.length = n1) (hb0 : n1 ≤ 9223372036854775807) (hb : bytesOk bs) (w : World) (hU : SliceOf 6 Mb.cells w A ms) (hV : Bys w A1 bs) :
    Calls Try.prog 33 #[.slice A n c, .slice A1 n1 c1] w fun e w' => e = .returned (.tuple #[.int .u64 ((stkP (total (selL ms (fun _ => true) n)) (total (selL ms (fun k => getB bs k) n)) : Nat) : Int), .int .u64 ((fit (total (selL ms (fun _ => true) n)) : Nat) : Int), .int .i64 (toldE (total (selL ms (fun _ => true) n)))]) ∧ Below w.heap.size w w' := by
  have HU := Lib.hid hU
  have HV := Lib.hid hV
  have HN := Lib.hid hn
  have HLen := Lib.hid (fun sel k => selL_len ms sel k)
  have HG := Lib.hid (fun W i (hi : i ≤ 9223372036854775807) (h : Bys W A1 bs) => rget_any A1 n1 c1 bs i h1 hb0 hb hi W h)
  have HSum := Lib.hid (fun W A c sel k (hl : (selL ms sel k).length ≤ 1000) (h : U64s W A (selL ms sel k)) => rsum_any A (selL ms sel k) (selL ms sel k).length c rfl (fun i => selL_getD hok sel k i) hl W h)
  unfold RetNat at HSum
  have HDg := Lib.hid (fun sel => selL_total' hok sel n (by omega))
  have HLe := Lib.hid (selL_le ms (fun k => getB bs k) n)
  clear hU hV hn hb hok h1
  go_enter Try.func33, Try.ntmps33
  go_wp2_with fail
  go_loopw [9, 7, 8] (fun i u v wr => ∃ (j : Nat) (U V : Value), i = .int .i64 j ∧ U = u ∧ V = v ∧ j ≤ n ∧ Hid (OwnU wr w.heap.size U (selL ms (fun k => getB bs k) j)) ∧ Hid (OwnU wr w.heap.size V (selL ms (fun _ => true) j)) ∧ Hid (Apart U V) ∧ Hid (Below w.heap.size w wr)) (fun i _ _ _ => n - (intOf i).toNat)
  case atStart => exact ⟨0, _, _, rfl, rfl, rfl, by omega, Lib.hid (OwnC.nil _ _), Lib.hid (OwnC.nil _ _), Lib.hid (Apart.nil _), Lib.hid (Below.refl _ _)⟩
  case round =>
    obtain ⟨j, U, V, rfl, rfl, rfl, hj, hOU, hOV, hne, hB⟩ := hrel
    by_cases hlt : j < n
    · obtain ⟨b, off, rfl, hbb, hcell⟩ := HU.out (by rw [HN.out]; omega)
      obtain ⟨m, hxj⟩ : ∃ m, ms[j]? = some m := ⟨_, List.getElem?_eq_getElem (by rw [HN.out]; omega)⟩
      obtain ⟨k0, k1, k2, k3, k4, k5⟩ := mb_range (range_below (hcell j _ hxj) hB.out hbb)
      have KE := Lib.hid (fun W (h : Below w.heap.size w W) => (mb_range (range_below (hcell j _ hxj) h hbb)).2.1)
      have z1 : (0 : Int) ≤ (j : Int) := by omega
      have z2 : (j : Int) < (n : Int) := by omega
      have HX := Lib.hid hxj
      clear hcell hxj
      have HC := Lib.hid (fun W => rcounts_any m W)
      cases hc : countsB m.status
      · have S1 : Hid (selL ms (fun k => getB bs k) (j + 1) = selL ms (fun k => getB bs k) j) := Lib.hid (by rw [selL, oneS_no HX.out hc, List.append_nil])
        have S2 : Hid (selL ms (fun _ => true) (j + 1) = selL ms (fun _ => true) j) := Lib.hid (by rw [selL, oneS_no HX.out hc, List.append_nil])
        rw [hc] at HC
        clear hc
        go_wp2_with fail
        refine (HC.out _).mono ?_
        rintro e w1 ⟨rfl, hb1⟩
        have B2 := Lib.hid hb1
        clear hb1
        go_wp2_with fail
        exact ⟨⟨j + 1, _, _, by go_num, rfl, rfl, by omega, by rw [S1.out]; exact Lib.hid (hOU.out.stay B2.out), by rw [S2.out]; exact Lib.hid (hOV.out.stay B2.out), hne, Lib.hid (hB.out.trans (B2.out.mono hB.out.size))⟩, by simp [intOf]; omega⟩
      · rw [hc] at HC
        have S2 : Hid (selL ms (fun _ => true) (j + 1) = selL ms (fun _ => true) j ++ [m.s.eff]) := Lib.hid (by rw [selL, oneS_yes HX.out hc rfl])
        have S1y : Hid (getB bs (j : Int) = true → selL ms (fun k => getB bs k) (j + 1) = selL ms (fun k => getB bs k) j ++ [m.s.eff]) := Lib.hid (fun h => by rw [selL, oneS_yes HX.out hc h])
        have S1n : Hid (getB bs (j : Int) = false → selL ms (fun k => getB bs k) (j + 1) = selL ms (fun k => getB bs k) j) := Lib.hid (fun h => by rw [selL, oneS_not HX.out h, List.append_nil])
        have lu := HLen.out (fun k => getB bs k) j
        have lv := HLen.out (fun _ => true) j
        generalize hLU : selL ms (fun k => getB bs k) j = LU at *
        generalize hLV : selL ms (fun _ => true) j = LV at *
        obtain ⟨pu, hpu⟩ : ∃ p, p = LU.length := ⟨_, rfl⟩
        obtain ⟨pv, hpv⟩ : ∃ p, p = LV.length := ⟨_, rfl⟩
        rw [← hpu] at lu
        rw [← hpv] at lv
        have HPU := Lib.hid hpu
        have HPV := Lib.hid hpv
        clear hc hLU hLV hpu hpv
        go_wp2_with fail
        refine (HC.out _).mono ?_
        rintro e w1 ⟨rfl, hb1⟩
        have OU2 := Lib.hid (hOU.out.stay hb1)
        have OV2 := Lib.hid (hOV.out.stay hb1)
        have B2w := Lib.hid (hB.out.trans (hb1.mono hB.out.size))
        have L2 : Hid (wr.heap.size ≤ w1.heap.size) := Lib.hid hb1.size
        have ke1 := KE.out _ B2w.out
        have hlU := Lib.hid (fun k hk => (hOU.out.lt k hk).2)
        have hw1 : Hid (w.heap.size ≤ w1.heap.size) := Lib.hid B2w.out.size
        clear hb1 k0 k1 k2 k3 k4 k5
        go_wp2_with (at_builtin; refine wpList_append_d u64s_under u64_three rfl (by decide) (by decide) u64C_size u64C_one rfl _ _ rfl w.heap.size V LV rfl (OV2.out.stay ((Below.refl _ _).alloc (Nat.le_refl _) _)) _ 1 m.s.eff rfl (row_at _ _ _ _ rfl) pv HPV.out.symm (by rw [← HPV.out]; omega) (by have := hw1.out; simp only [World.size_alloc]; omega) ?_; intro A' cap w3 hO3 hg3 hd3; have HO3 := Lib.hid hO3; have HD3 := Lib.hid hd3; have B3 := Lib.hid (below_grown_c (B2w.out.alloc B2w.out.size _) (Nat.le_refl _) (OV2.out.stay ((Below.refl _ _).alloc (Nat.le_refl _) _)) hg3); have OU3 := Lib.hid ((OU2.out.stay ((Below.refl _ _).alloc (Nat.le_refl _) _)).far hg3 hne.out); have hz3 : Hid (w1.heap.size < w3.heap.size) := Lib.hid (by have := hg3.size; simp only [World.size_alloc] at this; omega); clear hO3 hg3 hd3)
        refine (HG.out _ (j : Int) (by omega) (HV.out.below B3.out (Nat.le_refl _))).mono ?_
        rintro e w4 ⟨rfl, hb4⟩
        have B4 := Lib.hid (Below.then B3.out hb4)
        have OU4 := Lib.hid (OU3.out.stay hb4)
        have HO4 := Lib.hid (HO3.out.stay hb4)
        have ke4 := KE.out _ B4.out
        have hz4 : Hid (w1.heap.size < w4.heap.size) := Lib.hid (Nat.lt_of_lt_of_le hz3.out hb4.size)
        have AP4 : Hid (Apart U (.slice A' (pv + 1) cap)) := Lib.hid (hne.out.right HD3.out (fun k hk => by have := hlU.out k hk; have := L2.out; simp only [World.size_alloc]; omega))
        clear hb4 OU2 OV2 OU3 HO3 ke1
        generalize hsel : getB bs (j : Int) = sj at *
        clear hsel
        cases sj
        · go_wp2_with fail
          exact ⟨⟨j + 1, _, _, by go_num, rfl, rfl, by omega, by rw [S1n.out (by simp)]; exact OU4, by rw [S2.out]; exact HO4, AP4, B4⟩, by simp [intOf]; omega⟩
        · go_wp2_with (at_builtin; refine wpList_append_d u64s_under u64_three rfl (by decide) (by decide) u64C_size u64C_one rfl _ _ rfl w.heap.size U LU rfl (OU4.out.stay ((Below.refl _ _).alloc (Nat.le_refl _) _)) _ 1 m.s.eff rfl (row_at _ _ _ _ rfl) pu HPU.out.symm (by rw [← HPU.out]; omega) (by have := hw1.out; have := hz4.out; simp only [World.size_alloc]; omega) ?_; intro A2' cap2 w5 hO5 hg5 hd5; have HO5 := Lib.hid hO5; have B5 := Lib.hid (below_grown_c (B4.out.alloc B4.out.size _) (Nat.le_refl _) (OU4.out.stay ((Below.refl _ _).alloc (Nat.le_refl _) _)) hg5); have OV5 := Lib.hid ((HO4.out.stay ((Below.refl _ _).alloc (Nat.le_refl _) _)).far hg5 AP4.out.symm); have AP5 : Hid (Apart (.slice A2' (pu + 1) cap2) (.slice A' (pv + 1) cap)) := Lib.hid (AP4.out.left hd5 (fun k hk => by have := (HO4.out.lt k hk).2; simp; omega)); clear hO5 hg5 hd5)
          exact ⟨⟨j + 1, _, _, by go_num, rfl, rfl, by omega, by rw [S1y.out (by simp)]; exact HO5, by rw [S2.out]; exact OV5, AP5, B5⟩, by simp [intOf]; omega⟩
    · obtain rfl : n = j := by omega
      have hOu' := hOU.out
      have hOv' := hOV.out
      obtain ⟨A3, c3, rfl, h3, _, h4⟩ := hOu'.form u64C_size
      obtain ⟨A5, c5, rfl, h5, _, h6⟩ := hOv'.form u64C_size
      have lu := HLen.out (fun k => getB bs k) n
      have lv := HLen.out (fun _ => true) n
      have HSu := Lib.hid (fun W (h : Below wr.heap.size wr W) => HSum.out W A3 c3 (fun k => getB bs k) n (by omega) ((u64s_slice h3).below h (Nat.le_refl _)))
      have HSv := Lib.hid (HSum.out wr A5 c5 (fun _ => true) n (by omega) (u64s_slice h5))
      have du := HDg.out (fun k => getB bs k)
      have dv := HDg.out (fun _ => true)
      generalize (selL ms (fun k => getB bs k) n).length = lu' at *
      generalize (selL ms (fun _ => true) n).length = lv' at *
      have hle := HLe.out
      obtain ⟨tu, htu⟩ : ∃ tu, tu = total (selL ms (fun k => getB bs k) n) := ⟨_, rfl⟩
      obtain ⟨tv, htv⟩ : ∃ tv, tv = total (selL ms (fun _ => true) n) := ⟨_, rfl⟩
      rw [← htu] at HSu hle du
      rw [← htv] at HSv hle dv
      have HTU := Lib.hid htu
      have HTV := Lib.hid htv
      have HUu := Lib.hid (fun W A c (h : NatV W A (dg tu).length tu) => uint_any A _ c tu W h du)
      have HUv := Lib.hid (fun W A c (h : NatV W A (dg tv).length tv) => uint_any A _ c tv W h dv)
      clear htu htv
      clear hOu' hOv' h3 h4 h5 h6 hOU hOV hne HU HLe HSum du dv HLen HDg lu lv
      by_cases h7 : tv ≤ 18446744073709551615
      · rw [fit_le (show tu ≤ 18446744073709551615 by omega), fitB_le (show tu ≤ 18446744073709551615 by omega)] at HUu
        rw [fit_le h7, fitB_le h7] at HUv
        have H7 := Lib.hid h7
        clear hle h7
        go_wp2_with fail
        refine (HSv.out).mono ?_
        rintro e w2 ⟨A6, c6, rfl, hN2, hb2, _⟩
        go_wp2_with fail
        refine (HUv.out _ _ _ hN2).mono ?_
        rintro e w3 ⟨rfl, hb3⟩
        have B3 := Lib.hid (Below.then hb2 hb3)
        clear hN2 hb2 hb3
        go_wp2_with fail
        refine (HSu.out _ B3.out).mono ?_
        rintro e w4 ⟨A7, c7, rfl, hN4, hb4, _⟩
        go_wp2_with fail
        refine (HUu.out _ _ _ hN4).mono ?_
        rintro e w5 ⟨rfl, hb5⟩
        have B5 := Lib.hid (Below.then (Below.then hB.out (Below.then B3.out hb4)) hb5)
        clear hN4 hb4 hb5
        go_wp2_with fail
        go_ret3
        exact ⟨by rw [← HTU.out, ← HTV.out, stkP_le H7.out, fit_le H7.out, told_le H7.out]; rfl, B5.out⟩
      · rw [fit_gt h7, show fitB tv = false by unfold fitB; rw [mostN_eq]; simpa using h7] at HUv
        have H7 := Lib.hid h7
        clear hle h7
        go_wp2_with fail
        refine (HSv.out).mono ?_
        rintro e w2 ⟨A6, c6, rfl, hN2, hb2, _⟩
        go_wp2_with fail
        refine (HUv.out _ _ _ hN2).mono ?_
        rintro e w3 ⟨rfl, hb3⟩
        have B3 := Lib.hid (Below.then hB.out (Below.then hb2 hb3))
        clear hN2 hb2 hb3
        go_wp2_with fail
        go_ret3
        exact ⟨by rw [← HTU.out, ← HTV.out, stkP_gt H7.out, fit_gt H7.out, told_gt H7.out]; rfl, B3.out⟩
set_option maxRecDepth 100000 in
set_option maxHeartbeats 8000000 in
theorem memberStakes_any (A A1 : Option Addr) (n c n1 c1 : Nat) (ms : List Mb) (bs : List Nat) (hn : ms.length = n) (hok : ∀ m ∈ ms, m.Ok) (hm : n ≤ 9223372036854775807) (h1 : bs.length = n1) (hb0 : n1 ≤ 9223372036854775807) (hb : bytesOk bs) (w : World) (hU : SliceOf 6 Mb.cells w A ms) (hV : Bys w A1 bs) :
    Calls Try.prog 10 #[.slice A n c, .slice A1 n1 c1] w fun e w' => e = .returned (.bool true) ∧ Below w.heap.size w w' := by
  by_cases hbig : (300 : Int) < (n : Int)
  · clear hn hok hU hV hb h1
    go_enter Try.func10, Try.ntmps10
    go_wp2_with fail
    refine (awake19_any _).mono ?_
    rintro e w1 ⟨rfl, hb1⟩
    go_wp2_with fail
    go_ret
    exact ⟨rfl, hb1⟩
  · by_cases hbig1 : (100 : Int) < (n1 : Int)
    · clear hn hok hU hV hb h1
      go_enter Try.func10, Try.ntmps10
      go_wp2_with fail
      refine (awake19_any _).mono ?_
      rintro e w1 ⟨rfl, hb1⟩
      go_wp2_with fail
      go_ret
      exact ⟨rfl, hb1⟩
    · have hok' : ∀ m ∈ ms, m.s.eff < 18446744073709551616 := fun m h => (hok m h).s.eff
      have HU := Lib.hid hU
      have HV := Lib.hid hV
      have HN := Lib.hid hn
      have HP := Lib.hid (fun W (h : SliceOf 6 Mb.cells W A ms) (h' : Bys W A1 bs) => pstakes_any A A1 n c n1 c1 ms bs hn (by omega) hok' h1 hb W h h')
      have HR := Lib.hid (fun W A2 c2 (h : SliceOf 6 Mb.cells W A2 ms) (h' : Bys W A1 bs) => rstakes_any A2 A1 n c2 n1 c1 ms bs hn (by omega) hok' h1 hb0 hb W h h')
      have hle : stkP (total (selL ms (fun _ => true) n)) (total (selL ms (fun k => getB bs k) n)) ≤ fit (total (selL ms (fun _ => true) n)) := by
        have := selL_le ms (fun k => getB bs k) n
        by_cases h : total (selL ms (fun _ => true) n) ≤ 18446744073709551615
        · rw [stkP_le h, fit_le h]; omega
        · rw [stkP_gt h]; omega
      generalize stkP (total (selL ms (fun _ => true) n)) (total (selL ms (fun k => getB bs k) n)) = sp at *
      generalize fit (total (selL ms (fun _ => true) n)) = ft at *
      generalize toldE (total (selL ms (fun _ => true) n)) = te at *
      have hle' : (sp : Int) ≤ (ft : Int) := by omega
      clear hU hV hn hok hok' h1 hb hle
      go_enter Try.func10, Try.ntmps10
      go_wp2_with fail
      refine (awake19_any _).mono ?_
      rintro e w1 ⟨rfl, hb1⟩
      go_wp2_with fail
      refine (HP.out _ (HU.out.below hb1 (Nat.le_refl _)) (HV.out.below hb1 (Nat.le_refl _))).mono ?_
      rintro e w2 ⟨rfl, hb2⟩
      have B2 := Lib.hid (Below.then hb1 hb2)
      have U2 := Lib.hid (HU.out.below B2.out (Nat.le_refl _))
      clear hb1 hb2 HP HU
      go_wp2_with fail
      go_loopw [33, 8] (fun i v wr => ∃ (j : Nat) (u : Value), i = .int .i64 j ∧ u = v ∧ j ≤ n ∧ Hid (OwnM wr w2.heap.size u (ms.take j)) ∧ Hid (Below w2.heap.size w2 wr)) (fun i _ _ => n - (intOf i).toNat)
      case atStart => exact ⟨0, _, rfl, rfl, by omega, Lib.hid (OwnC.nil _ _), Lib.hid (Below.refl _ _)⟩
      case round =>
        obtain ⟨j, u, rfl, rfl, hj, hO, hB⟩ := hrel
        by_cases hlt : j < n
        · obtain ⟨b, off, rfl, hbb, hcell⟩ := U2.out (by rw [HN.out]; omega)
          obtain ⟨m, hxj⟩ : ∃ m, ms[j]? = some m := ⟨_, List.getElem?_eq_getElem (by rw [HN.out]; omega)⟩
          obtain ⟨k0, k1, k2, k3, k4, k5⟩ := mb_range (range_below (hcell j _ hxj) hB.out hbb)
          have HS : Hid (ms.take (j + 1) = ms.take j ++ [m]) := Lib.hid (by
            have hj' : j < ms.length := by rw [HN.out]; exact hlt
            have : ms[j] = m := by rw [List.getElem?_eq_getElem hj'] at hxj; exact Option.some.inj hxj
            rw [List.take_succ_eq_append_getElem hj', this])
          have HLen : Hid ((ms.take j).length = j) := Lib.hid (by rw [List.length_take, HN.out]; omega)
          have z1 : (0 : Int) ≤ (j : Int) := by omega
          have z2 : (j : Int) < (n : Int) := by omega
          have HC := Lib.hid (fun W => plain19_any m W)
          have r1 : Hid (row (wr.alloc (.cells m.cells 67)) wr.heap.size = some m.cells) := Lib.hid (row_at _ _ _ _ rfl)
          have B1 : Hid (Below wr.heap.size wr (wr.alloc (.cells m.cells 67))) := Lib.hid (by (repeat (first | exact Below.refl _ _ | assumption | (refine Below.allocT ?_ _) | refine Below.drew ?_ | refine below_drewN ?_ _ | (refine Below.then ?_ (by assumption)) | (refine Below.setRow ?_ ?_ _; rotate_left; (focus (first | exact Nat.lt_succ_self _ | ((repeat rw [World.size_alloc]); omega) | (simp; done) | (simp; omega) | omega))) | (refine Below.setCell ?_ ?_ _; rotate_left; (focus (first | exact Nat.lt_succ_self _ | ((repeat rw [World.size_alloc]); omega) | (simp; done) | (simp; omega) | omega))) | (refine Below.then' ?_ (by assumption) ?_; rotate_left; (focus (first | exact Nat.lt_succ_self _ | ((repeat rw [World.size_alloc]); omega) | (simp; done) | (simp; omega) | omega))) | fail)); (first | done | fail))
          clear hcell hxj
          go_wp2_with fail
          refine (HC.out _).mono ?_
          rintro e w3 ⟨rfl, hb3⟩
          have B3 := Lib.hid (B1.out.trans (hb3.mono B1.out.size))
          have B3w := Lib.hid (hB.out.trans (B3.out.mono hB.out.size))
          have O3 := Lib.hid (hO.out.stay B3.out)
          clear hb3 B1 r1
          go_wp2_with (at_builtin; refine wpList_append_c rmbs_under rmb_three rfl (by decide) (by decide) Mb.cells_size Mb.cells_one rfl _ _ rfl w2.heap.size u (ms.take j) rfl (O3.out.stay ((Below.refl _ _).alloc (Nat.le_refl _) _)) _ 1 m rfl (row_at _ _ _ _ rfl) j HLen.out (by rw [HLen.out]; omega) (by have := B3w.out.size; simp only [World.size_alloc]; omega) ?_; intro A' cap w4 hO4 hg4; have HO4 := Lib.hid hO4; have B4 := Lib.hid (below_grown_c (B3w.out.alloc B3w.out.size _) (Nat.le_refl _) (O3.out.stay ((Below.refl _ _).alloc (Nat.le_refl _) _)) hg4); clear hO4 hg4)
          exact ⟨⟨j + 1, _, by go_num, rfl, by omega, by rw [HS.out]; exact HO4, B4⟩, by simp [intOf]; omega⟩
        · obtain rfl : n = j := by omega
          have hO' := hO.out
          rw [List.take_of_length_le (by rw [HN.out]; exact Nat.le_refl _)] at hO'
          obtain ⟨A', c', rfl, h1, _, _⟩ := hO'.form Mb.cells_size
          have B3 := Lib.hid (Below.then B2.out hB.out)
          have HX := Lib.hid (HR.out wr A' c' h1 (HV.out.below B3.out (Nat.le_refl _)))
          rw [HN.out]
          clear hO hO' h1 HR U2 B2 hB
          go_wp2_with fail
          refine (HX.out).mono ?_
          rintro e w4 ⟨rfl, hb4⟩
          have B4 := Lib.hid (Below.then B3.out hb4)
          clear hb4
          go_wp2_with fail
          go_ret
          exact ⟨rfl, B4.out⟩
end Go.Proofs.Ytkfbnaafpikgfaa
