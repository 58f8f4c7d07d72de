/-
  What a vault tells: Snapshot, Records, Generation; MinSectors.
-/
import Derived.Test.YtkkncijbedfdfaaVaultE
namespace Go.Proofs.Ytkkncijbedfdfaa
open Go.RowKit
set_option linter.unusedVariables false

def SnapPost (w : World) (bs : List Nat) (e : Ending) (w' : World) : Prop := ∃ A c, e = .returned (.slice A bs.length c) ∧ Bys w' A bs ∧ (∀ a, A = some a → w.heap.size ≤ a.block) ∧ Below w.heap.size w w'
theorem snapshot_any (gv g room : Nat) (br : Bool) (v : Vt) (x : VtA) (hl : v.snap.length ≤ 10000000) (w : World) (h : VtAt w gv g room br v x) : Calls Try.prog 12 #[.pointer (some ⟨gv, 0, none⟩)] w (SnapPost w v.snap) := by
  have HI := Lib.hid (vis_yes gv g w (row_cell h.row 5))
  have HY := Lib.hid h.snap
  have k7 : w.cell? ⟨gv, 7, none⟩ = some (.slice x.a7 v.snap.length x.c7) := row_cell h.row 7
  obtain ⟨n, hn⟩ : ∃ n, n = v.snap.length := ⟨_, rfl⟩
  rw [← hn] at k7 hl
  have HN : Hid (v.snap.length = n) := Lib.hid hn.symm
  clear h hn
  go_enter Try.func12, Try.ntmps12
  go_wp2_with fail
  refine (HI.out).mono ?_
  rintro e w1 ⟨rfl, rfl⟩
  go_wp2_with (at_builtin; refine wpList_appb rfl _ _ rfl (.slice none 0 0) [] v.snap x.a7 n x.c7 (OwnB.nil _) HY.out rfl rfl HN.out (by rw [HN.out, List.length_nil]; omega) ?_; intro v2 w2 hA; obtain ⟨A2, c2, hv2, hy2, hn2, hb2⟩ := app_copy hA HN.out; subst hv2; have HF := Lib.hid (And.intro hy2 (And.intro hn2 hb2)); clear hA hy2 hn2 hb2)
  go_ret
  exact ⟨A2, c2, by rw [HN.out]; rfl, HF.out.1, HF.out.2.1, HF.out.2.2⟩
theorem generation_any (gv g room : Nat) (br : Bool) (v : Vt) (x : VtA) (w : World) (h : VtAt w gv g room br v x) : Calls Try.prog 14 #[.pointer (some ⟨gv, 0, none⟩)] w fun e w' => e = .returned (.int .u64 (v.hd.gen : Int)) ∧ w = w' := by
  have HI := Lib.hid (vis_yes gv g w (row_cell h.row 5))
  have k0 : w.cell? ⟨gv, 0, none⟩ = some (.int .u64 (v.hd.gen : Int)) := row_cell h.row 0
  clear h
  go_enter Try.func14, Try.ntmps14
  go_wp2_with fail
  refine (HI.out).mono ?_
  rintro e w1 ⟨rfl, rfl⟩
  go_wp2_with fail
  go_ret
  exact ⟨rfl, rfl⟩
theorem min_any (w : World) : Calls Try.prog 15 #[] w fun e w' => e = .returned (.int .i64 4612) ∧ w = w' := by
  have H1 := Lib.hid (sectors_any 131072 (by omega) w)
  have H2 := Lib.hid (sectors_any 16387 (by omega) w)
  rw [show secs 131072 = 2048 from rfl] at H1
  rw [show secs 16387 = 257 from rfl] at H2
  go_enter Try.func15, Try.ntmps15
  go_wp2_with fail
  refine (H1.out).mono ?_
  rintro e w1 ⟨rfl, rfl⟩
  go_wp2_with fail
  refine (H2.out).mono ?_
  rintro e w1 ⟨rfl, rfl⟩
  go_wp2_with fail
  go_ret
  exact ⟨rfl, rfl⟩
def RecsPost (w : World) (l : List (List Nat)) (e : Ending) (w' : World) : Prop := ∃ A c rs, e = .returned (.slice A l.length c) ∧ RecsIn w' w.heap.size (.slice A l.length c) rs ∧ rs.map (·.bs) = l ∧ Below w.heap.size w w'
set_option maxHeartbeats 4000000 in
set_option maxRecDepth 100000 in
theorem records_any (gv g room : Nat) (br : Bool) (v : Vt) (x : VtA) (hl : v.recs.length < 100000) (hb : ∀ r ∈ v.recs, r.length ≤ 10000000) (w : World) (h : VtAt w gv g room br v x) : Calls Try.prog 13 #[.pointer (some ⟨gv, 0, none⟩)] w (RecsPost w v.recs) := by
  have HI := Lib.hid (vis_yes gv g w (row_cell h.row 5))
  have hlen : x.rs.length = v.recs.length := by rw [← h.vals, List.length_map]
  have k9 : w.cell? ⟨gv, 9, none⟩ = some (.slice x.a9 x.rs.length x.c9) := row_cell h.row 9
  obtain ⟨A', c', e', hS, _⟩ := h.own.form recK_size
  rw [Value.slice.injEq] at e'
  have HS : Hid (SliceOf 1 recK w x.a9 x.rs) := Lib.hid (by rw [e'.1]; exact hS)
  have HY := Lib.hid h.recs
  have HV := Lib.hid h.vals
  obtain ⟨n, hn⟩ : ∃ n, n = x.rs.length := ⟨_, rfl⟩
  rw [← hn] at k9 hlen
  rw [← hlen] at hl
  have HN : Hid (x.rs.length = n ∧ v.recs.length = n) := Lib.hid ⟨hn.symm, hlen.symm⟩
  have HB := Lib.hid hb
  clear h hS e' hn hlen hb
  go_enter Try.func13, Try.ntmps13
  go_wp2_with fail
  refine (HI.out).mono ?_
  rintro e w1 ⟨rfl, rfl⟩
  go_wp2_with fail
  go_loopw [3, 13] (fun q i wr => ∃ (j : Nat) (V : Value) (rs : List Rec), i = .int .i64 j ∧ V = q ∧ j ≤ n ∧ Hid (rs.length = j) ∧ Hid (rs.map (·.bs) = v.recs.take j ∧ RecsIn wr w.heap.size V rs ∧ Below w.heap.size w wr)) (fun _ i _ => n - (intOf i).toNat)
  case atStart => exact ⟨0, _, [], rfl, rfl, by omega, Lib.hid rfl, Lib.hid ⟨rfl, RecsIn.nil _ _, Below.refl _ _⟩⟩
  case round =>
    obtain ⟨j, V, rs, rfl, rfl, hj, hrs, hH⟩ := hrel
    by_cases hlt : j < n
    · obtain ⟨r, hrj⟩ : ∃ r, x.rs[j]? = some r := ⟨_, List.getElem?_eq_getElem (by rw [HN.out.1]; exact hlt)⟩
      have hvj : v.recs[j]? = some r.bs := by rw [← HV.out, List.getElem?_map, hrj]; rfl
      have HTk : Hid (v.recs.take (j + 1) = v.recs.take j ++ [r.bs]) := Lib.hid (by
        obtain ⟨hi, e⟩ := List.getElem?_eq_some_iff.1 hvj
        rw [List.take_succ_eq_append_getElem hi, e])
      have hmem := List.mem_of_getElem? hrj
      have hlr := HB.out r.bs (List.mem_of_getElem? hvj)
      obtain ⟨b, off, hx9, hbb, hcell⟩ := HS.out (by rw [HN.out.1]; omega)
      have hcj := hcell j r hrj 0 (.slice r.a r.bs.length r.c) rfl
      rw [Nat.mul_one, Nat.add_zero] at hcj
      have kj : wr.cell? ⟨b, off + j, none⟩ = some (.slice r.a r.bs.length r.c) := (hH.out.2.2.cell (p := ⟨b, off + j, none⟩) hbb).trans hcj
      have HYr := Lib.hid ((HY.out r hmem).below hH.out.2.2 (Nat.le_refl _))
      rw [hx9]
      obtain ⟨m, hm⟩ : ∃ m, m = r.bs.length := ⟨_, rfl⟩
      rw [← hm] at kj hlr
      have HM : Hid (r.bs.length = m) := Lib.hid hm.symm
      have z1 : (0 : Int) ≤ (j : Int) := by omega
      have z2 : (j : Int) < (n : Int) := by omega
      clear hrj hvj hmem hcell hcj hm
      have hIl := Lib.hid hH.out.2.1.lt
      go_wp2_with (first
        | (at_builtin; refine wpList_appb rfl _ _ rfl (.slice none 0 0) [] r.bs r.a m r.c (OwnB.nil _) HYr.out rfl rfl HM.out (by rw [HM.out, List.length_nil]; omega) ?_; intro v2 w2 hA; obtain ⟨A2, c2, hv2, hy2, hn2, hb2⟩ := app_copy hA HM.out; subst hv2; have r4 : row (w2.alloc (.cells #[.slice A2 m c2] 22)) w2.heap.size = some (recK ⟨A2, c2, r.bs⟩) := (row_at _ _ _ _ rfl).trans (by rw [← HM.out]; rfl); have I4 := (hH.out.2.1.stay hb2).stay ((Below.refl w2.heap.size w2).alloc (Nat.le_refl _) (.cells #[.slice A2 m c2] 22)); have y4 := hy2.stay ((Below.refl w2.heap.size w2).alloc (Nat.le_refl _) (.cells #[.slice A2 m c2] 22)); have b4 := Below.then (Below.then hH.out.2.2 hb2) ((Below.refl w2.heap.size w2).alloc (Nat.le_refl _) (.cells #[.slice A2 m c2] 22)))
        | (at_builtin; refine wpList_append_d bss_under bs_info rfl (by decide) (by decide) recK_size recK_one rfl _ _ rfl w.heap.size V rs rfl I4.own _ 1 ⟨A2, c2, r.bs⟩ rfl r4 j hrs.out (by have := hrs.out; omega) b4.size ?_; intro A5 c5 w5 hO5 hg5 hor5))
      obtain ⟨hI5, hC5⟩ := I4.push (r := ⟨A2, c2, r.bs⟩) y4 (fun _ a ha => Nat.le_trans hH.out.2.2.size (hn2 a ha)) (fun hp a ha e => by
        have h1 := hn2 a ha
        have h2 := (hIl.out.1 _ e).2
        omega) hO5 hg5 hor5
      have HNx : Hid ((rs ++ [(⟨A2, c2, r.bs⟩ : Rec)]).map (·.bs) = v.recs.take (j + 1) ∧ RecsIn w5 w.heap.size (.slice A5 (j + 1) c5) (rs ++ [⟨A2, c2, r.bs⟩]) ∧ Below w.heap.size w w5) := Lib.hid ⟨by rw [List.map_append, hH.out.1, HTk.out]; rfl, hI5, b4.trans (Chg.toBelow hC5 (fun k e => (hIl.out.1 _ e).1) b4.size)⟩
      have HLn : Hid ((rs ++ [(⟨A2, c2, r.bs⟩ : Rec)]).length = j + 1) := Lib.hid (by rw [List.length_append, hrs.out]; rfl)
      clear hO5 hg5 hor5 hI5 hC5 I4 y4 b4 r4
      exact ⟨⟨j + 1, _, _, by go_num, rfl, by omega, HLn, HNx⟩, by simp [intOf]; omega⟩
    · obtain rfl : j = n := by omega
      obtain ⟨A6, c6, hV6, _⟩ := hH.out.2.1.own.form recK_size
      rw [hrs.out] at hV6
      subst hV6
      go_wp2_with fail
      go_ret
      refine ⟨A6, c6, rs, by rw [HN.out.2]; rfl, by rw [HN.out.2]; exact hH.out.2.1, ?_, hH.out.2.2⟩
      rw [hH.out.1, List.take_of_length_le (by rw [HN.out.2]; exact Nat.le_refl _)]
end Go.Proofs.Ytkkncijbedfdfaa
