/-
  A head read out of a sector that holds one: vault.parse.
-/
import Derived.Test.YtkkncijbedfdfaaVault4
import Derived.Laws.BytesString
import Derived.Laws.Cells
namespace Go.Proofs.Ytkkncijbedfdfaa
open Go.RowKit
set_option linter.unusedVariables false

def strB (l : List Nat) : ByteArray := (l.map fun x : Nat => ((x : Nat) : Int)).foldl (fun r n => r.push (UInt8.ofNat n.toNat)) ByteArray.empty
theorem str_under : Try.prog.underlying 9 = some .string := by kernel_rfl
theorem u8_under : Try.prog.underlying 5 = some (.int .u8) := by kernel_rfl
theorem run_strB {W : World} {A : Option Addr} {l : List Nat} (h : Bys W A l) (hp : 0 < l.length) (c : Nat) : (convert 22 9 (.slice A l.length c)).run Try.prog W = .ok (.string (strB l)) W := by
  obtain ⟨b, off, rfl, hb, hc⟩ := h hp
  rw [run_convert_bytes_string W _ _ _ _ _ _ u8s_under u8_under str_under]
  have hl : (loadCells ⟨b, off, none⟩ (l.map fun x : Nat => Value.int .u8 ((x : Nat) : Int)).length).run Try.prog W = .ok (l.map fun x : Nat => Value.int .u8 ((x : Nat) : Int)).toArray W := run_loadCells_list _ _ _ fun j v hj => by
    have hjl : j < l.length := by
      have := (List.getElem?_eq_some_iff.1 hj).1
      simpa using this
    have hadd : (⟨b, off, none⟩ : Addr).add j = ⟨b, off + j, none⟩ := by unfold Addr.add; split <;> simp_all
    rw [hadd, hc j hjl, ← hj, List.getElem?_map, List.getD_eq_getElem?_getD, List.getElem?_eq_getElem hjl]
    rfl
  rw [List.length_map] at hl
  exact run_bytesToString W _ _ _ (l.map fun x : Nat => ((x : Nat) : Int)) (by rw [hl, List.map_map]; rfl)
theorem OwnB.str {W : World} {A : Option Addr} {c : Nat} {l : List Nat} (h : OwnB W (.slice A l.length c) l) (hl : l.length = 64) : (convert 22 9 (.slice A 64 c)).run Try.prog W = .ok (.string (strB l)) W := by
  obtain ⟨A', c', e, hB, _⟩ := h.form
  cases e
  have := run_strB hB (by omega) c
  rwa [hl] at this
theorem formH_ok (k : Hd) : bytesOk (formH k) := .of fun x hx => by
  unfold formH at hx
  simp only [List.mem_cons, List.mem_append, List.mem_replicate] at hx
  rcases hx with rfl | rfl | hx | rfl | hx | hx | hx | ⟨_, rfl⟩
  · decide
  · decide
  · exact lit_lt _ _ x hx
  · exact Nat.mod_lt _ (by decide)
  · exact lit_lt _ _ x hx
  · exact lit_lt _ _ x hx
  · exact lit_lt _ _ x hx
  · decide
set_option maxHeartbeats 4000000 in
set_option maxRecDepth 100000 in
/-- A right head is read as such. -/
theorem parse_yes (k : Hd) (room : Nat) (ko : k.Ok room) (b off c : Nat) (hc : 64 ≤ c) (hc2 : c ≤ 9223372036854775807) (w : World) (hB : Bys w (some ⟨b, off, none⟩) (formH k)) :
    Calls Try.prog 36 #[.slice (some ⟨b, off, none⟩) 64 c, .int .i64 (room : Int)] w fun e w' => e = .returned (.tuple #[.agg (headC k), .bool true]) ∧ Below w.heap.size w w' := by
  have hk := ko.bounds
  have hr := ko.room
  have hg := ko.gen
  have hfits := ko.fits
  have harea := ko.area
  have hs1 := secs_le (n := k.snap) (r := room) (by omega)
  have hs2 := secs_le (n := k.log) (r := room) (by omega)
  have ht := tells_head ko
  have hlen := formH_len k
  have hok : bytesOk (formH k) := formH_ok k
  generalize hbs : formH k = bs at *
  have HB := Lib.hid hB
  have HNs : Hid (∀ lo q c W, lo + q ≤ 64 → q ≤ 8 → Below w.heap.size w W → Calls Try.prog 44 #[.slice (some ⟨b, off + lo, none⟩) q c] W fun e w' => e = .returned (.int .u64 ((numB ((bs.drop lo).take q) : Nat) : Int)) ∧ W = w') := Lib.hid fun lo q c W h1 h2 h3 =>
    number_any _ q c _ (by rw [List.length_take, List.length_drop]; omega) h2 ((hok.drop lo).take q) W ((bys_part hB lo q (by omega)).below h3 (Nat.le_refl _))
  have HM : Hid (∀ W, Below w.heap.size w W → W.cell? ⟨b, off + 10, none⟩ = some (.int .u8 ((k.area : Nat) : Int))) := Lib.hid fun W h => by
    obtain ⟨b', o', e, hb, hcc⟩ := (hB.below h (Nat.le_refl _)) (by omega)
    cases e
    rw [hcc 10 (by omega), ht.area]
  have har : k.area < 256 := by rw [← ht.area]; exact hok 10
  obtain ⟨k1, k2, k3⟩ := hk
  have E1 : IntKind.i64.wrap (k.area : Int) = (k.area : Int) := IntWalk.i64_in _ (by omega)
  have E2 : IntKind.i64.wrap ((numB (List.take 4 (List.drop 11 bs)) : Nat) : Int) = ((numB (List.take 4 (List.drop 11 bs)) : Nat) : Int) := IntWalk.i64_in _ (by rw [ht.snap]; omega)
  have E3 : IntKind.i64.wrap ((numB (List.take 4 (List.drop 15 bs)) : Nat) : Int) = ((numB (List.take 4 (List.drop 15 bs)) : Nat) : Int) := IntWalk.i64_in _ (by rw [ht.log]; omega)
  have E4 : IntKind.i64.wrap ((numB (List.take 4 (List.drop 19 bs)) : Nat) : Int) = ((numB (List.take 4 (List.drop 19 bs)) : Nat) : Int) := IntWalk.i64_in _ (by rw [ht.all]; omega)
  have n2 : ¬ c = 2 := by omega
  have n11 : ¬ c = 11 := by omega
  have n15 : ¬ c = 15 := by omega
  have n19 : ¬ c = 19 := by omega
  have y10 : (10 : Int) ≤ (c : Int) := by omega
  have y15 : (15 : Int) ≤ (c : Int) := by omega
  have y19 : (19 : Int) ≤ (c : Int) := by omega
  have y23 : (23 : Int) ≤ (c : Int) := by omega
  have x10 : 10 ≤ c := by omega
  have x15 : 15 ≤ c := by omega
  have x19 : 19 ≤ c := by omega
  have x23 : 23 ≤ c := by omega
  have hB0 : Below w.heap.size w (w.alloc (.cells (headC Hd.none) 40)) := (by (repeat (first | exact Below.refl _ _ | assumption | (refine Below.allocT ?_ _) | refine Below.drew ?_ | refine below_drewN ?_ _ | (refine Below.then ?_ (by assumption)) | (refine Below.setRow ?_ ?_ _; rotate_left; (focus (first | exact Nat.lt_succ_self _ | ((repeat rw [World.size_alloc]); omega) | (simp; done) | (simp; omega) | omega))) | (refine Below.setCell ?_ ?_ _; rotate_left; (focus (first | exact Nat.lt_succ_self _ | ((repeat rw [World.size_alloc]); omega) | (simp; done) | (simp; omega) | omega))) | (refine Below.then' ?_ (by assumption) ?_; rotate_left; (focus (first | exact Nat.lt_succ_self _ | ((repeat rw [World.size_alloc]); omega) | (simp; done) | (simp; omega) | omega))) | fail)); (first | done | fail))
  have r0 : row (w.alloc (.cells (headC Hd.none) 40)) w.heap.size = some (headC Hd.none) := (by (repeat (first | assumption | (refine row_at _ _ _ _ ?_; first | rfl | (simp only [World.size_alloc]; done) | (simp only [World.size_alloc]; omega)) | (refine (row_past _ _ _ ?_).trans ?_; (focus (first | exact Nat.lt_succ_self _ | ((repeat rw [World.size_alloc]); omega) | (simp; done) | (simp; omega) | omega))) | rw [row_drewN] | rw [row_drew])); (first | done | fail))
  have HT := Lib.hid ht
  clear ht hB
  go_enter Try.func36, Try.ntmps36
  go_upto_region 1 with fail
  change Code.wp _ _ _ _ (w.alloc (.cells (headC Hd.none) 40))
  generalize hw0 : w.alloc (.cells (headC Hd.none) 40) = w0 at *
  have HB0 := Lib.hid hB0
  have HR0 := Lib.hid r0
  clear hw0 r0 hB0
  go_upto_region 3 with fail
  go_cut [6] (fun s6 wx => ∃ (V : World) (g : Nat), s6 = .pointer (some ⟨g, 0, none⟩) ∧ V = wx ∧ Below w0.heap.size w0 V ∧ row V g = some #[.int .u64 ((numB (List.take 8 (List.drop 2 bs)) : Nat) : Int), .int .i64 (k.area : Int), .int .i64 ((numB (List.take 4 (List.drop 11 bs)) : Nat) : Int), .int .i64 ((numB (List.take 4 (List.drop 15 bs)) : Nat) : Int), .int .i64 ((numB (List.take 4 (List.drop 19 bs)) : Nat) : Int)])
  case first =>
    have HM2 : Hid (∀ W, Below w0.heap.size w0 W → W.cell? ⟨b, off + 10, none⟩ = some (.int .u8 ((k.area : Nat) : Int))) := Lib.hid fun W h => HM.out W (Below.then HB0.out h)
    go_region_held3 (fun W => W.cell? ⟨b, off + 10, none⟩ = some (.int .u8 ((k.area : Nat) : Int))) (exact HM2.out _ (by (repeat (first | exact Below.refl _ _ | assumption | (refine Below.allocT ?_ _) | refine Below.drew ?_ | refine below_drewN ?_ _ | (refine Below.then ?_ (by assumption)) | (refine Below.setRow ?_ ?_ _; rotate_left; (focus (first | exact Nat.lt_succ_self _ | ((repeat rw [World.size_alloc]); omega) | (simp; done) | (simp; omega) | omega))) | (refine Below.setCell ?_ ?_ _; rotate_left; (focus (first | exact Nat.lt_succ_self _ | ((repeat rw [World.size_alloc]); omega) | (simp; done) | (simp; omega) | omega))) | (refine Below.then' ?_ (by assumption) ?_; rotate_left; (focus (first | exact Nat.lt_succ_self _ | ((repeat rw [World.size_alloc]); omega) | (simp; done) | (simp; omega) | omega))) | fail)); (first | done | fail))) ((go_at_call 44; refine (HNs.out _ _ _ _ (by omega) (by omega) (Below.then HB0.out (by (repeat (first | exact Below.refl _ _ | assumption | (refine Below.allocT ?_ _) | refine Below.drew ?_ | refine below_drewN ?_ _ | (refine Below.then ?_ (by assumption)) | (refine Below.setRow ?_ ?_ _; rotate_left; (focus (first | exact Nat.lt_succ_self _ | ((repeat rw [World.size_alloc]); omega) | (simp; done) | (simp; omega) | omega))) | (refine Below.setCell ?_ ?_ _; rotate_left; (focus (first | exact Nat.lt_succ_self _ | ((repeat rw [World.size_alloc]); omega) | (simp; done) | (simp; omega) | omega))) | (refine Below.then' ?_ (by assumption) ?_; rotate_left; (focus (first | exact Nat.lt_succ_self _ | ((repeat rw [World.size_alloc]); omega) | (simp; done) | (simp; omega) | omega))) | fail)); (first | done | fail)))).mono ?_; rintro e w1 ⟨rfl, rfl⟩))
    all_goals
      go_wp2_with fail
      go_meet
      first
        | exact ⟨_, _, rfl, rfl, (by (repeat (first | exact Below.refl _ _ | assumption | (refine Below.allocT ?_ _) | refine Below.drew ?_ | refine below_drewN ?_ _ | (refine Below.then ?_ (by assumption)) | (refine Below.setRow ?_ ?_ _; rotate_left; (focus (first | exact Nat.lt_succ_self _ | ((repeat rw [World.size_alloc]); omega) | (simp; done) | (simp; omega) | omega))) | (refine Below.setCell ?_ ?_ _; rotate_left; (focus (first | exact Nat.lt_succ_self _ | ((repeat rw [World.size_alloc]); omega) | (simp; done) | (simp; omega) | omega))) | (refine Below.then' ?_ (by assumption) ?_; rotate_left; (focus (first | exact Nat.lt_succ_self _ | ((repeat rw [World.size_alloc]); omega) | (simp; done) | (simp; omega) | omega))) | fail)); (first | done | fail)), row_at _ _ _ _ rfl⟩
        | exact ⟨_, _, rfl, rfl, (by (repeat (first | exact Below.refl _ _ | assumption | (refine Below.allocT ?_ _) | refine Below.drew ?_ | refine below_drewN ?_ _ | (refine Below.then ?_ (by assumption)) | (refine Below.setRow ?_ ?_ _; rotate_left; (focus (first | exact Nat.lt_succ_self _ | ((repeat rw [World.size_alloc]); omega) | (simp; done) | (simp; omega) | omega))) | (refine Below.setCell ?_ ?_ _; rotate_left; (focus (first | exact Nat.lt_succ_self _ | ((repeat rw [World.size_alloc]); omega) | (simp; done) | (simp; omega) | omega))) | (refine Below.then' ?_ (by assumption) ?_; rotate_left; (focus (first | exact Nat.lt_succ_self _ | ((repeat rw [World.size_alloc]); omega) | (simp; done) | (simp; omega) | omega))) | fail)); (first | done | fail)), (by (repeat (first | assumption | (refine row_at _ _ _ _ ?_; first | rfl | (simp only [World.size_alloc]; done) | (simp only [World.size_alloc]; omega)) | (refine (row_past _ _ _ ?_).trans ?_; (focus (first | exact Nat.lt_succ_self _ | ((repeat rw [World.size_alloc]); omega) | (simp; done) | (simp; omega) | omega))) | rw [row_drewN] | rw [row_drew])); (first | done | fail))⟩
  case rest =>
    obtain ⟨V, g, rfl, rfl, hBV, rV⟩ := hcut
    rw [HT.out.gen, HT.out.snap, HT.out.log, HT.out.all] at rV
    have rV' : row V g = some (headC k) := rV
    have HV := Lib.hid (And.intro hBV rV')
    have HR := Lib.hid ((row_below hBV (row_lt HR0.out)).trans HR0.out)
    clear rV rV' hBV HNs HM
    have e0 : ((k.gen : Int) == 0) = false := beq_eq_false_iff_ne.2 (by omega)
    have hgt : ¬ (1 : Int) < (k.area : Int) := by omega
    have hgd : decide ((1 : Int) < (k.area : Int)) = false := decide_eq_false hgt
    have E5 : IntKind.i64.wrap (((secs k.snap : Nat) : Int) + ((secs k.log : Nat) : Int)) = ((secs k.snap : Nat) : Int) + ((secs k.log : Nat) : Int) := IntWalk.i64_in _ (by omega)
    have hgl : ¬ (room : Int) < ((secs k.snap : Nat) : Int) + ((secs k.log : Nat) : Int) := by omega
    have hgld : decide ((room : Int) < ((secs k.snap : Nat) : Int) + ((secs k.log : Nat) : Int)) = false := decide_eq_false hgl
    have HMv : Hid (∀ W, Below V.heap.size V W → W.cell? ⟨g, 0, none⟩ = some (.int .u64 (k.gen : Int)) ∧ W.cell? ⟨g, 1, none⟩ = some (.int .i64 (k.area : Int)) ∧ W.cell? ⟨g, 2, none⟩ = some (.int .i64 (k.snap : Int)) ∧ W.cell? ⟨g, 3, none⟩ = some (.int .i64 (k.log : Int)) ∧ W.cell? ⟨g, 4, none⟩ = some (.int .i64 (k.all : Int)) ∧ (convert 22 9 (.slice (some ⟨b, off, none⟩) 64 c)).run Try.prog W = .ok (.string (strB bs)) W) := Lib.hid fun W h => by
      have hr := (row_below h (row_lt HV.out.2)).trans HV.out.2
      have hcv := run_strB ((HB.out.stay (Below.then HB0.out HV.out.1)).below h (Nat.le_refl _)) (by omega) c
      rw [hlen] at hcv
      exact ⟨row_cell hr 0, row_cell hr 1, row_cell hr 2, row_cell hr 3, row_cell hr 4, hcv⟩
    have HMr : Hid (∀ W, Below V.heap.size V W → row W g = some (headC k) ∧ row W w.heap.size = some (headC Hd.none)) := Lib.hid fun W h => ⟨(row_below h (row_lt HV.out.2)).trans HV.out.2, (row_below h (row_lt HR.out)).trans HR.out⟩
    go_upto_region 4 with fail
    refine wp_region_held_drew (S := (fun W => W.cell? ⟨g, 0, none⟩ = some (.int .u64 (k.gen : Int)) ∧ W.cell? ⟨g, 1, none⟩ = some (.int .i64 (k.area : Int)) ∧ W.cell? ⟨g, 2, none⟩ = some (.int .i64 (k.snap : Int)) ∧ W.cell? ⟨g, 3, none⟩ = some (.int .i64 (k.log : Int)) ∧ W.cell? ⟨g, 4, none⟩ = some (.int .i64 (k.all : Int)) ∧ (convert 22 9 (.slice (some ⟨b, off, none⟩) 64 c)).run Try.prog W = .ok (.string (strB bs)) W)) (by kernel_rfl) ?_ (fun hHeld => ?_)
    focus ((try dsimp only); exact HMv.out _ (by (repeat (first | exact Below.refl _ _ | assumption | (refine Below.allocT ?_ _) | refine Below.drew ?_ | refine below_drewN ?_ _ | (refine Below.then ?_ (by assumption)) | (refine Below.setRow ?_ ?_ _; rotate_left; (focus (first | exact Nat.lt_succ_self _ | ((repeat rw [World.size_alloc]); omega) | (simp; done) | (simp; omega) | omega))) | (refine Below.setCell ?_ ?_ _; rotate_left; (focus (first | exact Nat.lt_succ_self _ | ((repeat rw [World.size_alloc]); omega) | (simp; done) | (simp; omega) | omega))) | (refine Below.then' ?_ (by assumption) ?_; rotate_left; (focus (first | exact Nat.lt_succ_self _ | ((repeat rw [World.size_alloc]); omega) | (simp; done) | (simp; omega) | omega))) | fail)); (first | done | fail)))
    refine wpAnyH_take (i := 0) (oi := _) (v := ?_) rfl (by kernel_rfl) (by kernel_rfl) (by kernel_rfl) (fun _ _ _ h => h) (Or.inl ⟨by rfl, ?_⟩) (by assumption) ?_
    rotate_left
    focus (intro w hSw; (try dsimp only at hSw); go_simp; first | done | with_reducible rfl)
    try simp only [List.getElem_toArray, List.getElem_cons_zero, Act.put, List.setIfInBounds_toArray, List.set_cons_zero, List.set_cons_succ]
    refine wpAnyH_take (i := 1) (oi := _) (v := ?_) rfl (by kernel_rfl) (by kernel_rfl) (by kernel_rfl) (fun _ _ _ h => h) (Or.inl ⟨by rfl, ?_⟩) (by assumption) ?_
    rotate_left
    focus (intro w hSw; (try dsimp only at hSw); go_simp; first | done | with_reducible rfl)
    try simp only [List.getElem_toArray, List.getElem_cons_zero, List.getElem_cons_succ, Act.put, List.setIfInBounds_toArray, List.set_cons_zero, List.set_cons_succ]
    refine wpAnyH_take (i := 2) (oi := _) (v := ?_) rfl (by kernel_rfl) (by kernel_rfl) (by kernel_rfl) (fun _ _ _ h => h) (Or.inl ⟨by rfl, ?_⟩) (by assumption) ?_
    rotate_left
    focus (intro w hSw; (try dsimp only at hSw); go_simp; first | done | with_reducible rfl)
    try simp only [List.getElem_toArray, List.getElem_cons_zero, List.getElem_cons_succ, Act.put, List.setIfInBounds_toArray, List.set_cons_zero, List.set_cons_succ]
    refine wpAnyH_take (i := 3) (oi := _) (v := ?_) rfl (by kernel_rfl) (by kernel_rfl) (by kernel_rfl) (fun _ _ _ h => h) (Or.inl ⟨by rfl, ?_⟩) (by assumption) ?_
    rotate_left
    focus (intro w hSw; (try dsimp only at hSw); go_simp; first | done | with_reducible rfl)
    try simp only [List.getElem_toArray, List.getElem_cons_zero, List.getElem_cons_succ, Act.put, List.setIfInBounds_toArray, List.set_cons_zero, List.set_cons_succ]
    refine wpAnyH_take (i := 4) (oi := _) (v := ?_) rfl (by kernel_rfl) (by kernel_rfl) (by kernel_rfl) (fun _ _ _ h => h) (Or.inl ⟨by rfl, ?_⟩) (by assumption) ?_
    rotate_left
    focus (intro w hSw; (try dsimp only at hSw); go_simp; first | done | with_reducible rfl)
    try simp only [List.getElem_toArray, List.getElem_cons_zero, List.getElem_cons_succ, Act.put, List.setIfInBounds_toArray, List.set_cons_zero, List.set_cons_succ]
    refine wpAnyH_take (i := 5) (oi := _) (v := ?_) rfl (by kernel_rfl) (by kernel_rfl) (by kernel_rfl) (fun _ _ _ h => h) (Or.inl ⟨by rfl, ?_⟩) (by assumption) ?_
    rotate_left
    focus (intro w hSw; (try dsimp only at hSw); go_simp; first | done | with_reducible rfl)
    try simp only [List.getElem_toArray, List.getElem_cons_zero, List.getElem_cons_succ, Act.put, List.setIfInBounds_toArray, List.set_cons_zero, List.set_cons_succ]
    refine wpAnyH_take (i := 6) (oi := _) (v := ?_) rfl (by kernel_rfl) (by kernel_rfl) (by kernel_rfl) (fun _ _ _ h => h) (Or.inl ⟨by rfl, ?_⟩) (by assumption) ?_
    rotate_left
    focus (intro w hSw; (try dsimp only at hSw); go_simp; first | done | with_reducible rfl)
    try simp only [List.getElem_toArray, List.getElem_cons_zero, List.getElem_cons_succ, Act.put, List.setIfInBounds_toArray, List.set_cons_zero, List.set_cons_succ]
    refine wpAnyH_take (i := 7) (oi := _) (v := ?_) rfl (by kernel_rfl) (by kernel_rfl) (by kernel_rfl) (fun _ _ _ h => h) (Or.inl ⟨by rfl, ?_⟩) (by assumption) ?_
    rotate_left
    focus (intro w hSw; (try dsimp only at hSw); go_simp; first | done | with_reducible rfl)
    try simp only [List.getElem_toArray, List.getElem_cons_zero, List.getElem_cons_succ, Act.put, List.setIfInBounds_toArray, List.set_cons_zero, List.set_cons_succ]
    refine wpAnyH_take (i := 8) (oi := _) (v := ?_) rfl (by kernel_rfl) (by kernel_rfl) (by kernel_rfl) (fun _ _ _ h => h) (Or.inl ⟨by rfl, ?_⟩) (by assumption) ?_
    rotate_left
    focus (intro w hSw; (try dsimp only at hSw); go_simp; first | done | with_reducible rfl)
    try simp only [List.getElem_toArray, List.getElem_cons_zero, List.getElem_cons_succ, Act.put, List.setIfInBounds_toArray, List.set_cons_zero, List.set_cons_succ]
    refine wpAnyH_take (i := 9) (oi := _) (v := ?_) rfl (by kernel_rfl) (by kernel_rfl) (by kernel_rfl) (fun _ _ _ h => h) (Or.inl ⟨by rfl, ?_⟩) (by assumption) ?_
    rotate_left
    focus (intro w hSw; (try dsimp only at hSw); go_simp; first | done | with_reducible rfl)
    try simp only [List.getElem_toArray, List.getElem_cons_zero, List.getElem_cons_succ, Act.put, List.setIfInBounds_toArray, List.set_cons_zero, List.set_cons_succ]
    refine wpAnyH_take (i := 10) (oi := _) (v := ?_) rfl (by kernel_rfl) (by kernel_rfl) (by kernel_rfl) (fun _ _ _ h => h) (Or.inl ⟨by rfl, ?_⟩) (by assumption) ?_
    rotate_left
    focus (intro w hSw; (try dsimp only at hSw); go_simp; first | done | with_reducible rfl)
    try simp only [List.getElem_toArray, List.getElem_cons_zero, List.getElem_cons_succ, Act.put, List.setIfInBounds_toArray, List.set_cons_zero, List.set_cons_succ]
    refine wpAnyH_take (i := 12) (oi := _) (v := ?_) rfl (by kernel_rfl) (by kernel_rfl) (by kernel_rfl) (fun _ _ _ h => h) (Or.inl ⟨by rfl, ?_⟩) (by assumption) ?_
    rotate_left
    focus (intro w hSw; (try dsimp only at hSw); go_simp; first | done | with_reducible rfl)
    try simp only [List.getElem_toArray, List.getElem_cons_zero, List.getElem_cons_succ, Act.put, List.setIfInBounds_toArray, List.set_cons_zero, List.set_cons_succ]
    refine wpAnyH_take (i := 13) (oi := _) (v := ?_) rfl (by kernel_rfl) (by kernel_rfl) (by kernel_rfl) (fun _ _ _ h => h) (Or.inl ⟨by rfl, ?_⟩) (by assumption) ?_
    rotate_left
    focus (intro w hSw; (try dsimp only at hSw); go_simp; first | done | with_reducible rfl)
    try simp only [List.getElem_toArray, List.getElem_cons_zero, List.getElem_cons_succ, Act.put, List.setIfInBounds_toArray, List.set_cons_zero, List.set_cons_succ]
    refine wpAnyH_take (i := 16) (oi := _) (v := ?_) rfl (by kernel_rfl) (by kernel_rfl) (by kernel_rfl) (fun _ _ _ h => h) (Or.inl ⟨by rfl, ?_⟩) (by assumption) ?_
    rotate_left
    focus (intro w hSw; (try dsimp only at hSw); go_simp; first | done | with_reducible rfl)
    try simp only [List.getElem_toArray, List.getElem_cons_zero, List.getElem_cons_succ, Act.put, List.setIfInBounds_toArray, List.set_cons_zero, List.set_cons_succ]
    refine wpAnyH_ready (rs := [11]) (by kernel_rfl) (by simp) ?_
    refine AllReadyH.cons (o := _) rfl (fun K hK => ?_) AllReadyH.nil
    go_simp
    go_at_call 28; refine (sectors_any _ (by omega) _).mono ?_; rintro e w1 ⟨rfl, rfl⟩
    refine hK.out _ _ ?_ (fun hHeld => ?_)
    focus ((try dsimp only); exact HMv.out _ (by (repeat (first | exact Below.refl _ _ | assumption | (refine Below.allocT ?_ _) | refine Below.drew ?_ | refine below_drewN ?_ _ | (refine Below.then ?_ (by assumption)) | (refine Below.setRow ?_ ?_ _; rotate_left; (focus (first | exact Nat.lt_succ_self _ | ((repeat rw [World.size_alloc]); omega) | (simp; done) | (simp; omega) | omega))) | (refine Below.setCell ?_ ?_ _; rotate_left; (focus (first | exact Nat.lt_succ_self _ | ((repeat rw [World.size_alloc]); omega) | (simp; done) | (simp; omega) | omega))) | (refine Below.then' ?_ (by assumption) ?_; rotate_left; (focus (first | exact Nat.lt_succ_self _ | ((repeat rw [World.size_alloc]); omega) | (simp; done) | (simp; omega) | omega))) | fail)); (first | done | fail)))
    clear hK K
    try simp only [List.getElem_toArray, List.getElem_cons_zero, List.getElem_cons_succ, Act.put, List.setIfInBounds_toArray, List.set_cons_zero, List.set_cons_succ]
    refine wpAnyH_ready (rs := [14]) (by kernel_rfl) (by simp) ?_
    refine AllReadyH.cons (o := _) rfl (fun K hK => ?_) AllReadyH.nil
    go_simp
    go_at_call 28; refine (sectors_any _ (by omega) _).mono ?_; rintro e w1 ⟨rfl, rfl⟩
    refine hK.out _ _ ?_ (fun hHeld => ?_)
    focus ((try dsimp only); exact HMv.out _ (by (repeat (first | exact Below.refl _ _ | assumption | (refine Below.allocT ?_ _) | refine Below.drew ?_ | refine below_drewN ?_ _ | (refine Below.then ?_ (by assumption)) | (refine Below.setRow ?_ ?_ _; rotate_left; (focus (first | exact Nat.lt_succ_self _ | ((repeat rw [World.size_alloc]); omega) | (simp; done) | (simp; omega) | omega))) | (refine Below.setCell ?_ ?_ _; rotate_left; (focus (first | exact Nat.lt_succ_self _ | ((repeat rw [World.size_alloc]); omega) | (simp; done) | (simp; omega) | omega))) | (refine Below.then' ?_ (by assumption) ?_; rotate_left; (focus (first | exact Nat.lt_succ_self _ | ((repeat rw [World.size_alloc]); omega) | (simp; done) | (simp; omega) | omega))) | fail)); (first | done | fail)))
    clear hK K
    try simp only [List.getElem_toArray, List.getElem_cons_zero, List.getElem_cons_succ, Act.put, List.setIfInBounds_toArray, List.set_cons_zero, List.set_cons_succ]
    refine wpAnyH_take (i := 15) (oi := _) (v := ?_) rfl (by kernel_rfl) (by kernel_rfl) (by kernel_rfl) (fun _ _ _ h => h) (Or.inl ⟨by rfl, ?_⟩) (by assumption) ?_
    rotate_left
    focus (intro w hSw; (try dsimp only at hSw); go_simp; first | done | with_reducible rfl)
    try simp only [List.getElem_toArray, List.getElem_cons_zero, List.getElem_cons_succ, Act.put, List.setIfInBounds_toArray, List.set_cons_zero, List.set_cons_succ]
    refine wpAnyH_take (i := 17) (oi := _) (v := ?_) rfl (by kernel_rfl) (by kernel_rfl) (by kernel_rfl) (fun _ _ _ h => h) (Or.inl ⟨by rfl, ?_⟩) (by assumption) ?_
    rotate_left
    focus (intro w hSw; (try dsimp only at hSw); go_simp; first | done | with_reducible rfl)
    try simp only [List.getElem_toArray, List.getElem_cons_zero, List.getElem_cons_succ, Act.put, List.setIfInBounds_toArray, List.set_cons_zero, List.set_cons_succ]
    refine wpAnyH_take (i := 18) (oi := _) (v := ?_) rfl (by kernel_rfl) (by kernel_rfl) (by kernel_rfl) (fun _ _ _ h => h) (Or.inl ⟨by rfl, ?_⟩) (by assumption) ?_
    rotate_left
    focus (intro w hSw; (try dsimp only at hSw); go_simp; first | done | with_reducible rfl)
    try simp only [List.getElem_toArray, List.getElem_cons_zero, List.getElem_cons_succ, Act.put, List.setIfInBounds_toArray, List.set_cons_zero, List.set_cons_succ]
    refine wpAnyH_take (i := 19) (oi := _) (v := ?_) rfl (by kernel_rfl) (by kernel_rfl) (by kernel_rfl) (fun _ _ _ h => h) (Or.inl ⟨by rfl, ?_⟩) (by assumption) ?_
    rotate_left
    focus (intro w hSw; (try dsimp only at hSw); go_simp; first | done | with_reducible rfl)
    try simp only [List.getElem_toArray, List.getElem_cons_zero, List.getElem_cons_succ, Act.put, List.setIfInBounds_toArray, List.set_cons_zero, List.set_cons_succ]
    refine wpAnyH_take (i := 20) (oi := _) (v := ?_) rfl (by kernel_rfl) (by kernel_rfl) (by kernel_rfl) (fun _ _ _ h => h) (Or.inl ⟨by rfl, ?_⟩) (by assumption) ?_
    rotate_left
    focus (intro w hSw; (try dsimp only at hSw); go_simp; first | done | with_reducible rfl)
    try simp only [List.getElem_toArray, List.getElem_cons_zero, List.getElem_cons_succ, Act.put, List.setIfInBounds_toArray, List.set_cons_zero, List.set_cons_succ]
    refine wpAnyH_take (i := 23) (oi := _) (v := ?_) rfl (by kernel_rfl) (by kernel_rfl) (by kernel_rfl) (fun _ _ _ h => h) (Or.inl ⟨by rfl, ?_⟩) (by assumption) ?_
    rotate_left
    focus (intro w hSw; (try dsimp only at hSw); go_simp; first | done | with_reducible rfl)
    try simp only [List.getElem_toArray, List.getElem_cons_zero, List.getElem_cons_succ, Act.put, List.setIfInBounds_toArray, List.set_cons_zero, List.set_cons_succ]
    refine wpAnyH_take (i := 24) (oi := _) (v := ?_) rfl (by kernel_rfl) (by kernel_rfl) (by kernel_rfl) (fun _ _ _ h => h) (Or.inl ⟨by rfl, ?_⟩) (by assumption) ?_
    rotate_left
    focus (intro w hSw; (try dsimp only at hSw); go_simp; first | done | with_reducible rfl)
    try simp only [List.getElem_toArray, List.getElem_cons_zero, List.getElem_cons_succ, Act.put, List.setIfInBounds_toArray, List.set_cons_zero, List.set_cons_succ]
    refine wpAnyH_ready (rs := [21]) (by kernel_rfl) (by simp) ?_
    refine AllReadyH.cons (o := _) rfl (fun K hK => ?_) AllReadyH.nil
    go_simp
    go_at_call 43; refine (form_any k room ko _).mono ?_; rintro e w1 ⟨A, cc, rfl, hO, hA, hBe⟩; have hcv := OwnB.str (hbs ▸ hO) hlen; simp only [hbs, hlen]; replace hBe : Below V.heap.size V w1 := (by (repeat (first | exact Below.refl _ _ | assumption | (refine Below.allocT ?_ _) | refine Below.drew ?_ | refine below_drewN ?_ _ | (refine Below.then ?_ (by assumption)) | (refine Below.setRow ?_ ?_ _; rotate_left; (focus (first | exact Nat.lt_succ_self _ | ((repeat rw [World.size_alloc]); omega) | (simp; done) | (simp; omega) | omega))) | (refine Below.setCell ?_ ?_ _; rotate_left; (focus (first | exact Nat.lt_succ_self _ | ((repeat rw [World.size_alloc]); omega) | (simp; done) | (simp; omega) | omega))) | (refine Below.then' ?_ (by assumption) ?_; rotate_left; (focus (first | exact Nat.lt_succ_self _ | ((repeat rw [World.size_alloc]); omega) | (simp; done) | (simp; omega) | omega))) | fail)); (first | done | fail)); obtain ⟨q1, q2⟩ := HMr.out w1 hBe; have hx0 : (row w1 w.heap.size).map (·.size) = some 5 := (by rw [q2]; rfl); have HQ := Lib.hid q2; clear hO q2
    refine hK.out _ _ ?_ (fun hHeld => ?_)
    focus ((try dsimp only); exact HMv.out _ (by (repeat (first | exact Below.refl _ _ | assumption | (refine Below.allocT ?_ _) | refine Below.drew ?_ | refine below_drewN ?_ _ | (refine Below.then ?_ (by assumption)) | (refine Below.setRow ?_ ?_ _; rotate_left; (focus (first | exact Nat.lt_succ_self _ | ((repeat rw [World.size_alloc]); omega) | (simp; done) | (simp; omega) | omega))) | (refine Below.setCell ?_ ?_ _; rotate_left; (focus (first | exact Nat.lt_succ_self _ | ((repeat rw [World.size_alloc]); omega) | (simp; done) | (simp; omega) | omega))) | (refine Below.then' ?_ (by assumption) ?_; rotate_left; (focus (first | exact Nat.lt_succ_self _ | ((repeat rw [World.size_alloc]); omega) | (simp; done) | (simp; omega) | omega))) | fail)); (first | done | fail)))
    clear hK K
    try simp only [List.getElem_toArray, List.getElem_cons_zero, List.getElem_cons_succ, Act.put, List.setIfInBounds_toArray, List.set_cons_zero, List.set_cons_succ]
    refine wpAnyH_ready (rs := [22]) (by kernel_rfl) (by simp) ?_
    refine AllReadyH.cons (o := _) rfl (fun K hK => ?_) AllReadyH.nil
    go_simp
    refine hK.out _ _ ?_ (fun hHeld => ?_)
    focus ((try dsimp only); exact HMv.out _ (by (repeat (first | exact Below.refl _ _ | assumption | (refine Below.allocT ?_ _) | refine Below.drew ?_ | refine below_drewN ?_ _ | (refine Below.then ?_ (by assumption)) | (refine Below.setRow ?_ ?_ _; rotate_left; (focus (first | exact Nat.lt_succ_self _ | ((repeat rw [World.size_alloc]); omega) | (simp; done) | (simp; omega) | omega))) | (refine Below.setCell ?_ ?_ _; rotate_left; (focus (first | exact Nat.lt_succ_self _ | ((repeat rw [World.size_alloc]); omega) | (simp; done) | (simp; omega) | omega))) | (refine Below.then' ?_ (by assumption) ?_; rotate_left; (focus (first | exact Nat.lt_succ_self _ | ((repeat rw [World.size_alloc]); omega) | (simp; done) | (simp; omega) | omega))) | fail)); (first | done | fail)))
    clear hK K
    try simp only [List.getElem_toArray, List.getElem_cons_zero, List.getElem_cons_succ, Act.put, List.setIfInBounds_toArray, List.set_cons_zero, List.set_cons_succ]
    refine wpAnyH_take (i := 25) (oi := _) (v := ?_) rfl (by kernel_rfl) (by kernel_rfl) (by kernel_rfl) (fun _ _ _ h => h) (Or.inl ⟨by rfl, ?_⟩) (by assumption) ?_
    rotate_left
    focus (intro w hSw; (try dsimp only at hSw); go_simp; first | done | with_reducible rfl)
    try simp only [List.getElem_toArray, List.getElem_cons_zero, List.getElem_cons_succ, Act.put, List.setIfInBounds_toArray, List.set_cons_zero, List.set_cons_succ]
    refine wpAnyH_take (i := 26) (oi := _) (v := ?_) rfl (by kernel_rfl) (by kernel_rfl) (by kernel_rfl) (fun _ _ _ h => h) (Or.inl ⟨by rfl, ?_⟩) (by assumption) ?_
    rotate_left
    focus (intro w hSw; (try dsimp only at hSw); go_simp; first | done | with_reducible rfl)
    try simp only [List.getElem_toArray, List.getElem_cons_zero, List.getElem_cons_succ, Act.put, List.setIfInBounds_toArray, List.set_cons_zero, List.set_cons_succ]
    refine wpAnyH_done (by kernel_rfl) ?_ _
    have HB3 := Lib.hid (Below.then (Below.then HB0.out HV.out.1) hBe)
    clear hBe hcv
    have ha1 : allOne #[Value.int .u64 (k.gen : Int), .int .i64 (k.area : Int), .int .i64 (k.snap : Int), .int .i64 (k.log : Int), .int .i64 (k.all : Int)] = true := headC_one k
    go_wp2_with fail
    obtain ⟨t, htt⟩ := row_heap (row_setRow (new := headC k) HQ.out)
    exact bodyPost_ret (v := .tuple #[.agg (headC k), .bool true]) (results_cell_tmp Try.results36 _ _ (w.heap.size) t (headC k) (0, 0) _ rfl htt hd_under rfl hd_info) rfl ⟨rfl, Below.setRow HB3.out (Nat.le_refl _) _⟩
end Go.Proofs.Ytkkncijbedfdfaa
