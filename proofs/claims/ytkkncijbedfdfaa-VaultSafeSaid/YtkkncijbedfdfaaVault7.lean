/-
  A log's records read: vault.cut; lists of records that a call makes.
-/
import Derived.Test.YtkkncijbedfdfaaVault6
import Derived.Test.YtkkncijbedfdfaaVaultC
import Derived.Test.YtkkncijbedfdfaaCoder6
namespace Go.Proofs.Ytkkncijbedfdfaa
open Go.RowKit
set_option linter.unusedVariables false

theorem bs_info : (Try.prog.info? 22).map (fun i => (i.zero, i.size, i.bytes)) = some (some (.slice none 0 0), 1, 24) := by kernel_rfl
theorem bss_under : Try.prog.underlying 41 = some (.slice 22) := by kernel_rfl
/-- Records that a call has made: their slice, and each one's bytes. -/
structure RecsIn (W : World) (B : Nat) (v : Value) (rs : List Rec) : Prop where
  own : OwnC 22 1 recK W B v rs
  bys : ∀ r ∈ rs, Bys W r.a r.bs
  new : ∀ r ∈ rs, 0 < r.bs.length → ∀ a, r.a = some a → B ≤ a.block
  apart : ∀ r ∈ rs, 0 < r.bs.length → ∀ a, r.a = some a → v.ownBlock ≠ some a.block
theorem RecsIn.nil (W : World) (B : Nat) : RecsIn W B (.slice none 0 0) [] := ⟨OwnC.nil _ _, fun r h => (List.not_mem_nil h).elim, fun r h => (List.not_mem_nil h).elim, fun r h => (List.not_mem_nil h).elim⟩
theorem RecsIn.lt {W : World} {B : Nat} {v : Value} {rs : List Rec} (h : RecsIn W B v rs) : (∀ k, v.ownBlock = some k → B ≤ k ∧ k < W.heap.size) ∧ ∀ r ∈ rs, 0 < r.bs.length → ∀ a, r.a = some a → B ≤ a.block ∧ a.block < W.heap.size :=
  ⟨h.own.lt, fun r hr hp a ha => ⟨h.new r hr hp a ha, (h.bys r hr).lt hp a ha⟩⟩
theorem RecsIn.chg {W W' : World} {B : Nat} {v : Value} {rs : List Rec} {S : Nat → Prop} (h : RecsIn W B v rs) (hc : Chg S W W') (hS : ∀ k, B ≤ k → k < W.heap.size → ¬ S k) : RecsIn W' B v rs :=
  ⟨h.own.chg hc (fun k hk => hS k (h.own.lt k hk).1 (h.own.lt k hk).2), fun r hr => (h.bys r hr).chg' hc (fun hp a ha => hS _ (h.new r hr hp a ha) ((h.bys r hr).lt hp a ha)), h.new, h.apart⟩
theorem RecsIn.stay {W W' : World} {B : Nat} {v : Value} {rs : List Rec} (h : RecsIn W B v rs) (hb : Below W.heap.size W W') : RecsIn W' B v rs := h.chg (Chg.of_below (S := fun _ => False) hb (Nat.le_refl _)) (fun _ _ _ h => h)
theorem RecsIn.push {W W' : World} {B : Nat} {v v' : Value} {rs : List Rec} {r : Rec} (h : RecsIn W B v rs) (hr : Bys W r.a r.bs) (hB : 0 < r.bs.length → ∀ a, r.a = some a → B ≤ a.block) (hap : 0 < r.bs.length → ∀ a, r.a = some a → v.ownBlock ≠ some a.block) (ho : OwnC 22 1 recK W' B v' (rs ++ [r])) (hg : W.grownBy W' v.ownBlock) (hor : v'.ownBlock = v.ownBlock ∨ v'.ownBlock = some W.heap.size) : RecsIn W' B v' (rs ++ [r]) ∧ Chg (owns v) W W' := by
  have hc : Chg (owns v) W W' := (Chg.refl _ W).grown hg (fun k hk => .inl hk)
  have hne : ∀ x, x < W.heap.size → v.ownBlock ≠ some x → v'.ownBlock ≠ some x := fun x hx hn e => by
    rcases hor with h1 | h1
    · exact hn (h1.symm.trans e)
    · have h2 : some W.heap.size = some x := h1.symm.trans e
      rw [Option.some.injEq] at h2; omega
  refine ⟨⟨ho, fun x hx => ?_, fun x hx => ?_, fun x hx hp a ha => ?_⟩, hc⟩
  · rcases List.mem_append.1 hx with hx | hx
    · exact (h.bys x hx).chg' hc (fun hp a ha => h.apart x hx hp a ha)
    · rw [List.mem_singleton] at hx; subst hx
      exact hr.chg' hc hap
  · rcases List.mem_append.1 hx with hx | hx
    · exact h.new x hx
    · rw [List.mem_singleton] at hx; subst hx; exact hB
  · rcases List.mem_append.1 hx with hx | hx
    · exact hne _ ((h.bys x hx).lt hp a ha) (h.apart x hx hp a ha)
    · rw [List.mem_singleton] at hx; subst hx
      exact hne _ (hr.lt hp a ha) (hap hp a ha)
/-- Records that a log can hold. -/
def RecsOk (l : List (List Nat)) : Prop := ∀ r ∈ l, 1 ≤ r.length ∧ r.length ≤ 16384 ∧ bytesOk r
theorem logL_ok {l : List (List Nat)} (h : RecsOk l) : bytesOk (logL l) := .of fun x hx => by
  unfold logL at hx
  obtain ⟨r, hr, hx⟩ := List.mem_flatMap.1 hx
  unfold rawF at hx
  rcases List.mem_append.1 hx with hx | hx
  · exact (formN_ok _).mem x hx
  · exact (h r hr).2.2.mem x hx
def CutPost (w : World) (l : List (List Nat)) (e : Ending) (w' : World) : Prop := ∃ A c rs, e = .returned (.tuple #[.slice A l.length c, .bool true]) ∧ RecsIn w' w.heap.size (.slice A l.length c) rs ∧ rs.map (·.bs) = l ∧ Below w.heap.size w w'
set_option maxHeartbeats 4000000 in
set_option maxRecDepth 100000 in
theorem cut_any (A : Option Addr) (n c m : Nat) (l : List (List Nat)) (hl : RecsOk l) (hm : l.length = m) (hn : (logL l).length = n) (hlen : n ≤ 10000000) (hm5 : m < 100000) (w : World) (hB : Bys w A (logL l)) :
    Calls Try.prog 38 #[.slice A n c, .int .i64 (m : Int)] w (CutPost w l) := by
  have HO := Lib.hid (ropen_any A n c (logL l) hn (by omega) w hB)
  have HL := Lib.hid hl
  have hmn : m ≤ n := by have := logL_len l; omega
  have HM := Lib.hid hm
  have HN := Lib.hid hn
  have HOk := Lib.hid (logL_ok hl)
  unfold OpenPostC at HO
  clear hB hl hm hn
  go_enter Try.func38, Try.ntmps38
  go_wp2_with fail
  refine (HO.out).mono ?_
  rintro e w1 ⟨g, Ar, cr, rfl, hg, hAr, hR, hb1⟩
  have HG := Lib.hid hg
  have HAr := Lib.hid hAr
  have HR := Lib.hid hR
  have HB1 := Lib.hid hb1
  clear hg hAr hR hb1 HO
  go_wp2_with fail
  go_loopw [7, 12] (fun v i wr => ∃ (j : Nat) (V : Value) (rs : List Rec), i = .int .i64 j ∧ V = v ∧ j ≤ m ∧ Hid (rs.length = j) ∧ Hid (rs.map (·.bs) = l.take j ∧ RecsIn wr w1.heap.size V rs ∧ RdAt wr g Ar cr ⟨logL l, (logL (l.take j)).length, 0⟩ ∧ Below w.heap.size w wr ∧ w1.heap.size ≤ wr.heap.size)) (fun _ i _ => m - (intOf i).toNat)
  case atStart => exact ⟨0, _, [], rfl, rfl, by omega, Lib.hid rfl, Lib.hid ⟨rfl, RecsIn.nil _ _, HR.out, HB1.out, Nat.le_refl _⟩⟩
  case round =>
    obtain ⟨j, V, rs, rfl, rfl, hj, hrs, hH⟩ := hrel
    have hglt := Lib.hid HR.out.lt
    by_cases hlt : j < m
    · obtain ⟨b, hbj⟩ : ∃ b, l[j]? = some b := ⟨_, List.getElem?_eq_getElem (by rw [HM.out]; omega)⟩
      have hbok := HL.out b (List.mem_of_getElem? hbj)
      have hs1 := logL_succ hbj
      have hs2 := logL_split hbj
      have hraw := raw_rec (t := ⟨logL l, (logL (l.take j)).length, 0⟩) (b := b) (r := logL (l.drop (j + 1))) rfl hbok.2.1 hs2
      have hatle : (logL (l.take j)).length ≤ (logL l).length := by
        have h3 := congrArg List.length hs2
        rw [List.length_drop, List.length_append] at h3
        have := rawF_pos b
        omega
      have hRd := rraw_any g Ar cr ⟨logL l, (logL (l.take j)).length, 0⟩ ⟨HOk.out, hatle, (by show (logL l).length ≤ _; rw [HN.out]; omega), (by show (0 : Int) ≤ 0; omega), (by show (0 : Int) ≤ 60; omega)⟩ (by show (logL l).length ≤ _; rw [HN.out]; omega) 16384 (by unfold i64ok; omega) wr hH.out.2.2.1
      rw [hraw] at hRd
      unfold RawPost RawPostC at hRd
      have HRd := Lib.hid hRd
      have HS1 : Hid ((logL (l.take (j + 1))).length = (logL (l.take j)).length + (rawF b).length) := Lib.hid (by rw [hs1, List.length_append])
      have HTk : Hid (l.take (j + 1) = l.take j ++ [b]) := Lib.hid (by
        obtain ⟨hi, rfl⟩ := List.getElem?_eq_some_iff.1 hbj
        rw [List.take_succ_eq_append_getElem hi])
      have HEr := Lib.hid (fun W s (h : RdAt W g Ar cr s) => rerr_any g Ar cr s W h)
      obtain ⟨hb1, hb2, hb3⟩ := hbok
      clear hbj hs1 hs2 hraw hatle hRd hb3
      have z1 : (j : Int) < (m : Int) := by omega
      go_wp2_with fail
      refine (HRd.out).mono ?_
      rintro e w2 ⟨A2, c2, rfl, hO2, hA2, hR2, hC2⟩
      have R2 := Lib.hid hR2
      have I2 := Lib.hid (hH.out.2.1.chg hC2 (fun k h1 h2 e => by have e' : k = g := e; have := hglt.out; omega))
      have B2 := Lib.hid (hH.out.2.2.2.1.trans (Chg.toBelow hC2 (fun k e => by have e' : k = g := e; have := HG.out; omega) hH.out.2.2.2.1.size))
      have hsz2 : w1.heap.size ≤ w2.heap.size := Nat.le_trans hH.out.2.2.2.2 hC2.size
      have N2 : Hid (∀ a, A2 = some a → wr.heap.size ≤ a.block) := Lib.hid hA2
      have hlr := Lib.hid hH.out.2.1.lt
      have HSz := Lib.hid hH.out.2.2.2.2
      obtain ⟨A', c', e', hBy, _⟩ := hO2.form
      rw [Value.slice.injEq] at e'
      have Y2 : Hid (Bys w2 A2 b) := Lib.hid (by rw [e'.1]; exact hBy)
      have HMp := Lib.hid hH.out.1
      clear hO2 hA2 hR2 hC2 hBy e' hH HRd
      go_wp2_with fail
      refine (HEr.out _ _ R2.out).mono ?_
      rintro e w3 ⟨rfl, rfl⟩
      have hbe : ((b.length : Int) == 0) = false := beq_eq_false_iff_ne.2 (by omega)
      have r4 : row (w2.alloc (.cells #[.slice A2 b.length c2] 22)) w2.heap.size = some (recK ⟨A2, c2, b⟩) := row_at _ _ _ _ rfl
      have B4 : Below w2.heap.size w2 (w2.alloc (.cells #[.slice A2 b.length c2] 22)) := (by (repeat (first | exact Below.refl _ _ | assumption | (refine Below.allocT ?_ _) | refine Below.drew ?_ | refine below_drewN ?_ _ | (refine Below.then ?_ (by assumption)) | (refine Below.setRow ?_ ?_ _; rotate_left; (focus (first | exact Nat.lt_succ_self _ | ((repeat rw [World.size_alloc]); omega) | (simp; done) | (simp; omega) | omega))) | (refine Below.setCell ?_ ?_ _; rotate_left; (focus (first | exact Nat.lt_succ_self _ | ((repeat rw [World.size_alloc]); omega) | (simp; done) | (simp; omega) | omega))) | (refine Below.then' ?_ (by assumption) ?_; rotate_left; (focus (first | exact Nat.lt_succ_self _ | ((repeat rw [World.size_alloc]); omega) | (simp; done) | (simp; omega) | omega))) | fail)); (first | done | fail))
      have I4 := Lib.hid (I2.out.stay B4)
      have R4 := Lib.hid (R2.out.stay B4)
      have Y4 := Lib.hid (Y2.out.stay B4)
      have B4' := Lib.hid (Below.then B2.out B4)
      have hs4 : w1.heap.size ≤ (w2.alloc (.cells #[.slice A2 b.length c2] 22)).heap.size := Nat.le_trans hsz2 B4.size
      have HS4 := Lib.hid hs4
      clear hs4 B4 HEr R2 I2
      go_wp2_with (at_builtin; refine wpList_append_d bss_under bs_info rfl (by decide) (by decide) recK_size recK_one rfl _ _ rfl w1.heap.size V rs rfl I4.out.own _ 1 ⟨A2, c2, b⟩ rfl r4 j hrs.out (by have := hrs.out; omega) HS4.out ?_; intro A5 c5 w5 hO5 hg5 hor5)
      obtain ⟨hI5, hC5⟩ := I4.out.push (r := ⟨A2, c2, b⟩) Y4.out (fun _ a ha => Nat.le_trans HSz.out (N2.out a ha)) (fun hp a ha e => by
        have h1 := N2.out a ha
        have h2 := (hlr.out.1 _ e).2
        omega) hO5 hg5 hor5
      have HNx : Hid ((rs ++ [(⟨A2, c2, b⟩ : Rec)]).map (·.bs) = l.take (j + 1) ∧ RecsIn w5 w1.heap.size (.slice A5 (j + 1) c5) (rs ++ [⟨A2, c2, b⟩]) ∧ RdAt w5 g Ar cr ⟨logL l, (logL (l.take (j + 1))).length, 0⟩ ∧ Below w.heap.size w w5 ∧ w1.heap.size ≤ w5.heap.size) := Lib.hid ⟨by rw [List.map_append, HMp.out, HTk.out]; rfl, hI5, by
        rw [HS1.out]
        exact R4.out.chg' hC5 (fun e => by have h1 := (hlr.out.1 _ e).1; have h2 := hglt.out; omega) (fun _ a ha e => by have h1 := (hlr.out.1 _ e).1; have h2 := (HAr.out a ha).2; omega), B4'.out.trans (Chg.toBelow hC5 (fun k e => by have h1 := (hlr.out.1 _ e).1; have h2 := HB1.out.size; omega) B4'.out.size), Nat.le_trans HS4.out hC5.size⟩
      have HLn : Hid ((rs ++ [(⟨A2, c2, b⟩ : Rec)]).length = j + 1) := Lib.hid (by rw [List.length_append, hrs.out]; rfl)
      clear hO5 hg5 hor5 hI5 hC5
      exact ⟨⟨j + 1, _, _, by go_num, rfl, by omega, HLn, HNx⟩, by simp [intOf]; omega⟩
    · obtain rfl : j = m := by omega
      have hTk : l.take j = l := List.take_of_length_le (by rw [HM.out]; exact Nat.le_refl _)
      obtain ⟨h1, h2, h3, h4, h5⟩ := hH.out
      rw [hTk] at h1 h3
      obtain ⟨A6, c6, rfl, _⟩ := h2.own.form recK_size
      rw [hrs.out] at h2 ⊢
      have hq := rdone_quiet g Ar cr ⟨logL l, (logL l).length, 0⟩ ⟨HOk.out, Nat.le_refl _, (by show (logL l).length ≤ _; rw [HN.out]; omega), (by show (0 : Int) ≤ 0; omega), (by show (0 : Int) ≤ 60; omega)⟩ wr h3
      have hd0 : (⟨logL l, (logL l).length, 0⟩ : Rd).done = 0 := by unfold Rd.done; simp
      rw [hd0] at hq
      have HQ := Lib.hid hq
      have HF := Lib.hid (And.intro h1 (And.intro h2 h4))
      clear h1 h2 h3 h4 h5 hq hd0 hTk hH
      go_wp2_with fail
      refine (HQ.out).mono ?_
      rintro e w7 ⟨rfl, q, rfl⟩
      go_wp2_with fail
      go_ret2
      have hbq : Below wr.heap.size wr (wr.drewN q) := below_drewN (Below.refl _ _) q
      refine ⟨A6, c6, rs, by rw [HM.out]; rfl, ?_, HF.out.1, Below.then HF.out.2.2 hbq⟩
      have hI := HF.out.2.1.stay hbq
      rw [HM.out]
      exact ⟨hI.own.base HB1.out.size, hI.bys, fun r hr hp a ha => Nat.le_trans HB1.out.size (hI.new r hr hp a ha), hI.apart⟩
end Go.Proofs.Ytkkncijbedfdfaa
