/-
  The reference's prizes (bullionref14.Prizes).
-/
import Derived.Test.YtkfbnaafpikgfaaPrize4
import Derived.Test.YtkfbnaafpikgfaaAgg
import Derived.Deep.AppendLies
namespace Go.Proofs.Ytkfbnaafpikgfaa
open Go.RowKit
set_option linter.unusedVariables false

theorem step_append_u64 {ops : Array Oper} {o : Oper} {a : Act} {w : World} {K : Act → World → Prop} {Q : Exit → Act → World → Prop} {E : Prop} (hgd : o.guard = none) (s x : Operand)
    (ho : o.op = .call { callee := .builtin .append, args := #[s, x], argTypes := #[43, 43] }) (B : Nat) (v : Value) (l : List Nat) (hs : a.eval s = v) (hown : OwnL w B v l)
    (b c y : Nat) (hx : a.eval x = .slice (some ⟨b, 0, none⟩) 1 c) (hc : w.cell? ⟨b, 0, none⟩ = some (.int .u64 ((y : Nat) : Int))) (m : Nat) (hlm : l.length = m) (hl : l.length < 100000) (hB : B ≤ w.heap.size)
    (h : ∀ A cap w', OwnL w' B (.slice A (m + 1) cap) (l ++ [y]) → w.grownBy w' v.ownBlock → K (a.put o.dst (.slice A (m + 1) cap)) w') :
    if Region.wanted o (yielded ops a.tmps) = true then Oper.wp Try.prog o a w K Q else E := by
  obtain ⟨i0, hi, hz0, hz1, hz2⟩ := info_parts info64
  refine step_append_lies w hgd s x 43 ho B 22 i0 (.int .u64 0) 1 8 u64l_under hi hz0 hz1 hz2 rfl (by decide) v l.length _ hs hown ⟨b, 0, none⟩ 1 c [.int .u64 ((y : Nat) : Int)] hx rfl ?_ ?_ (by omega) (by unfold maxLen; omega) (by omega) hB _ rfl ?_
  · intro j u hj
    cases j with
    | zero =>
      simp at hj
      subst hj
      simpa [Addr.add] using hc
    | succ j => simp at hj
  · intro u hu
    simp at hu
    subst hu
    rfl
  · intro g cap w' hown' hg _ _
    have h2 : OwnL w' B (.slice (some ⟨g, 0, none⟩) (m + 1) cap) (l ++ [y]) := by
      unfold OwnL
      rw [← hlm]
      simpa using hown'
    have := h (some ⟨g, 0, none⟩) cap w' h2 hg
    rwa [← hlm] at this
theorem rpar_run_load {ρ : Operand → Value} {dst : Option Tmp} {x : Operand} {ty : TypeId} {pos : String} {after : Array Edge} {gd : Option (Nat × Bool)} {w : World}
    (h1 : ρ x = .pointer (some ⟨blk (ρ x), 0, none⟩)) (h2 : (row w (blk (ρ x))).map (·.size) = some 24) :
    (execOp ρ ⟨dst, .load 30 x, ty, pos, after, gd⟩).run Try.prog w = .ok (.value (.agg ((row w (blk (ρ x))).getD #[]))) w := run_load_agg _ 24 _ rpar_under rfl rpar_info h1 h2
attribute [go_sem ↓] rpar_run_load
def RPrizesPost (w : World) (P : Par) (t : Nat) (xs : List St) (e : Ending) (w' : World) : Prop := ∃ A c, e = .returned (.tuple #[.slice A (partsN t (xs.map (weightN P))).length c, .int .u64 ((t - total (partsN t (xs.map (weightN P))) : Nat) : Int)]) ∧ OwnL w' w.heap.size (.slice A (partsN t (xs.map (weightN P))).length c) (partsN t (xs.map (weightN P))) ∧ Below w.heap.size w w'
set_option maxRecDepth 100000 in
set_option maxHeartbeats 4000000 in
theorem rprizes_any (P : Par) (t : Nat) (A : Option Addr) (n c : Nat) (xs : List St) (ht : t < 18446744073709551616) (hr : rightB P = true) (hn : xs.length = n) (hm : n ≤ 128) (w : World) (hU : SliceOf 4 St.cells w A xs) :
    Calls Try.prog 26 #[.agg P.cells, .int .u64 t, .slice A n c] w (RPrizesPost w P t xs) := by
  have r0 : row (w.alloc (.cells P.cells 30)) w.heap.size = some P.cells := row_at _ _ _ _ rfl
  have hB0 : Below w.heap.size w (w.alloc (.cells P.cells 30)) := (by (repeat (first | exact Below.refl _ _ | assumption | (refine Below.allocT ?_ _) | refine Below.drew ?_ | refine below_drewN ?_ _ | (refine Below.then ?_ (by assumption)) | (refine Below.setRow ?_ ?_ _; rotate_left; (focus (first | exact Nat.lt_succ_self _ | ((repeat rw [World.size_alloc]); omega) | (simp; done) | (simp; omega) | omega))) | (refine Below.setCell ?_ ?_ _; rotate_left; (focus (first | exact Nat.lt_succ_self _ | ((repeat rw [World.size_alloc]); omega) | (simp; done) | (simp; omega) | omega))) | (refine Below.then' ?_ (by assumption) ?_; rotate_left; (focus (first | exact Nat.lt_succ_self _ | ((repeat rw [World.size_alloc]); omega) | (simp; done) | (simp; omega) | omega))) | fail)); (first | done | fail))
  have hok := weights_ok hr xs (by omega)
  have hlt := weights_lt hr xs
  have HWl : Hid ((xs.map (weightN P)).length = n) := Lib.hid (by simp [hn])
  have HSp := Lib.hid (fun W (B : Option Addr) (d : Nat) (h1 : U64s W B (xs.map (weightN P))) (h2 : 0 < n → ∀ x, B = some x → x.block < W.heap.size) => rsplit_any t n d B (xs.map (weightN P)) ht hlt HWl.out (by omega) W h1 h2)
  have HV : Hid (partsV t (xs.map (weightN P)) = partsN t (xs.map (weightN P)) ∧ leftV t (xs.map (weightN P)) = t - total (partsN t (xs.map (weightN P))) ∧ wholeE (xs.map (weightN P)) = 0) := Lib.hid ⟨by simp [partsV, hok], by simp [leftV, hok], hok⟩
  have HW := Lib.hid (fun s W => rweight_any P s hr W)
  have HU := Lib.hid hU
  have HN := Lib.hid hn
  clear hr hok hlt hU hn
  go_enter Try.func26, Try.ntmps26
  go_wp2_with fail
  generalize hw0 : w.alloc (.cells P.cells 30) = w0 at *
  have hz0 : Hid (w0.heap.size = w.heap.size + 1) := Lib.hid (by rw [← hw0, World.size_alloc])
  clear hw0
  go_wp2_with fail
  go_loopw [9, 8] (fun i v wr => ∃ (j : Nat) (u : Value), i = .int .i64 j ∧ u = v ∧ j ≤ n ∧ Hid (OwnL wr w0.heap.size u ((xs.take j).map (weightN P))) ∧ Hid (Below w0.heap.size w0 wr)) (fun i _ _ => n - (intOf i).toNat)
  case atStart => exact ⟨0, _, rfl, rfl, by omega, Lib.hid (OwnL.nil _ _), Lib.hid (Below.refl _ _)⟩
  case round =>
    obtain ⟨j, u, rfl, rfl, hj, hO, hB⟩ := hrel
    by_cases hlt : j < n
    · obtain ⟨b, off, rfl, hbb, hcell⟩ := HU.out (by rw [HN.out]; omega)
      obtain ⟨s, hxj⟩ : ∃ s, xs[j]? = some s := ⟨_, List.getElem?_eq_getElem (by rw [HN.out]; omega)⟩
      have hbb0 : b < w0.heap.size := by have := hz0.out; omega
      have HM : Hid (∀ w', Below w0.heap.size w0 w' → row w' w.heap.size = some P.cells ∧ w'.cell? ⟨b, off + j * 4, none⟩ = some (.int .u64 s.bal) ∧ w'.cell? ⟨b, off + j * 4 + 1, none⟩ = some (.int .u64 s.eff) ∧ w'.cell? ⟨b, off + j * 4 + 2, none⟩ = some (.int .u64 s.score) ∧ w'.cell? ⟨b, off + j * 4 + 3, none⟩ = some (.int .i64 s.streak)) := Lib.hid fun w' h =>
        ⟨(row_below h (row_lt r0)).trans r0, st_range (range_below (range_below (hcell j _ hxj) hB0 hbb) h hbb0)⟩
      have HB : Hid (∀ w', Below wr.heap.size wr w' → Below w0.heap.size w0 w') := Lib.hid fun w' h => hB.out.trans (h.mono hB.out.size)
      have HS : Hid ((xs.take (j + 1)).map (weightN P) = (xs.take j).map (weightN P) ++ [weightN P s]) := Lib.hid (by
        have hj' : j < xs.length := by rw [HN.out]; exact hlt
        have : xs[j] = s := by rw [List.getElem?_eq_getElem hj'] at hxj; exact Option.some.inj hxj
        rw [List.take_succ_eq_append_getElem hj', this, List.map_append]; rfl)
      have hlen : ((xs.take j).map (weightN P)).length = j := by simp; rw [HN.out]; omega
      have HLen := Lib.hid hlen
      have z1 : (0 : Int) ≤ (j : Int) := by omega
      have z2 : (j : Int) < (n : Int) := by omega
      have HWs := Lib.hid (fun W => HW.out s W)
      have hdec : decide (j < n) = true := decide_eq_true hlt
      generalize weightN P s = q at *
      clear hcell hxj hlen hbb0
      go_wp2_with fail
      go_region_held3 (fun w' => row w' w.heap.size = some P.cells ∧ w'.cell? ⟨b, off + j * 4, none⟩ = some (.int .u64 s.bal) ∧ w'.cell? ⟨b, off + j * 4 + 1, none⟩ = some (.int .u64 s.eff) ∧ w'.cell? ⟨b, off + j * 4 + 2, none⟩ = some (.int .u64 s.score) ∧ w'.cell? ⟨b, off + j * 4 + 3, none⟩ = some (.int .i64 s.streak)) (first | exact HM.out _ hB2.out | exact HM.out _ (HB.out _ (by (repeat (first | exact Below.refl _ _ | assumption | (refine Below.allocT ?_ _) | refine Below.drew ?_ | refine below_drewN ?_ _ | (refine Below.then ?_ (by assumption)) | (refine Below.setRow ?_ ?_ _; rotate_left; (focus (first | exact Nat.lt_succ_self _ | ((repeat rw [World.size_alloc]); omega) | (simp; done) | (simp; omega) | omega))) | (refine Below.setCell ?_ ?_ _; rotate_left; (focus (first | exact Nat.lt_succ_self _ | ((repeat rw [World.size_alloc]); omega) | (simp; done) | (simp; omega) | omega))) | (refine Below.then' ?_ (by assumption) ?_; rotate_left; (focus (first | exact Nat.lt_succ_self _ | ((repeat rw [World.size_alloc]); omega) | (simp; done) | (simp; omega) | omega))) | fail)); (first | done | fail))) | fail) (first | (go_at_call 25; refine (HWs.out _).mono ?_; rintro e w1 ⟨rfl, hb1⟩) | (refine step_append_u64 rfl _ _ rfl w0.heap.size u ((xs.take j).map (weightN P)) rfl (hO.out.stay (show Below wr.heap.size wr _ from (by (repeat (first | exact Below.refl _ _ | assumption | (refine Below.allocT ?_ _) | refine Below.drew ?_ | refine below_drewN ?_ _ | (refine Below.then ?_ (by assumption)) | (refine Below.setRow ?_ ?_ _; rotate_left; (focus (first | exact Nat.lt_succ_self _ | ((repeat rw [World.size_alloc]); omega) | (simp; done) | (simp; omega) | omega))) | (refine Below.setCell ?_ ?_ _; rotate_left; (focus (first | exact Nat.lt_succ_self _ | ((repeat rw [World.size_alloc]); omega) | (simp; done) | (simp; omega) | omega))) | (refine Below.then' ?_ (by assumption) ?_; rotate_left; (focus (first | exact Nat.lt_succ_self _ | ((repeat rw [World.size_alloc]); omega) | (simp; done) | (simp; omega) | omega))) | fail)); (first | done | fail)))) _ 1 q rfl (row_cell (row_at _ _ _ _ rfl) 0) j HLen.out (by rw [HLen.out]; omega) (Below.size (HB.out _ (by (repeat (first | exact Below.refl _ _ | assumption | (refine Below.allocT ?_ _) | refine Below.drew ?_ | refine below_drewN ?_ _ | (refine Below.then ?_ (by assumption)) | (refine Below.setRow ?_ ?_ _; rotate_left; (focus (first | exact Nat.lt_succ_self _ | ((repeat rw [World.size_alloc]); omega) | (simp; done) | (simp; omega) | omega))) | (refine Below.setCell ?_ ?_ _; rotate_left; (focus (first | exact Nat.lt_succ_self _ | ((repeat rw [World.size_alloc]); omega) | (simp; done) | (simp; omega) | omega))) | (refine Below.then' ?_ (by assumption) ?_; rotate_left; (focus (first | exact Nat.lt_succ_self _ | ((repeat rw [World.size_alloc]); omega) | (simp; done) | (simp; omega) | omega))) | fail)); (first | done | fail)))) ?_; intro A' cap w2 hO2 hg2; have hB2 := Lib.hid (below_grown (HB.out _ (by (repeat (first | exact Below.refl _ _ | assumption | (refine Below.allocT ?_ _) | refine Below.drew ?_ | refine below_drewN ?_ _ | (refine Below.then ?_ (by assumption)) | (refine Below.setRow ?_ ?_ _; rotate_left; (focus (first | exact Nat.lt_succ_self _ | ((repeat rw [World.size_alloc]); omega) | (simp; done) | (simp; omega) | omega))) | (refine Below.setCell ?_ ?_ _; rotate_left; (focus (first | exact Nat.lt_succ_self _ | ((repeat rw [World.size_alloc]); omega) | (simp; done) | (simp; omega) | omega))) | (refine Below.then' ?_ (by assumption) ?_; rotate_left; (focus (first | exact Nat.lt_succ_self _ | ((repeat rw [World.size_alloc]); omega) | (simp; done) | (simp; omega) | omega))) | fail)); (first | done | fail))) (Nat.le_refl _) (hO.out.stay (show Below wr.heap.size wr _ from (by (repeat (first | exact Below.refl _ _ | assumption | (refine Below.allocT ?_ _) | refine Below.drew ?_ | refine below_drewN ?_ _ | (refine Below.then ?_ (by assumption)) | (refine Below.setRow ?_ ?_ _; rotate_left; (focus (first | exact Nat.lt_succ_self _ | ((repeat rw [World.size_alloc]); omega) | (simp; done) | (simp; omega) | omega))) | (refine Below.setCell ?_ ?_ _; rotate_left; (focus (first | exact Nat.lt_succ_self _ | ((repeat rw [World.size_alloc]); omega) | (simp; done) | (simp; omega) | omega))) | (refine Below.then' ?_ (by assumption) ?_; rotate_left; (focus (first | exact Nat.lt_succ_self _ | ((repeat rw [World.size_alloc]); omega) | (simp; done) | (simp; omega) | omega))) | fail)); (first | done | fail)))) hg2)))
      go_wp2_with fail
      exact ⟨⟨j + 1, _, by go_num, rfl, by omega, by rw [HS.out]; exact Lib.hid hO2, hB2⟩, by simp [intOf]; omega⟩
    · obtain rfl : n = j := by omega
      have hO' := hO.out
      rw [List.take_of_length_le (by rw [HN.out]; exact Nat.le_refl _)] at hO'
      obtain ⟨A', c', rfl, h1, h2, _⟩ := hO'.form
      have hS := HSp.out wr A' c' h1 (fun _ x hx => (h2 x hx).2)
      have HSx := Lib.hid hS
      have hwl := HWl.out
      rw [hwl] at hO' ⊢
      have hdec : decide (n < n) = false := by simp
      clear hO hO' h1 h2 hS hwl HU
      go_wp2_with fail
      refine (HSx.out).mono ?_
      rintro e w3 ⟨v, rfl, hO3, hb3⟩
      rw [HV.out.1] at hO3
      rw [HV.out.2.1, HV.out.2.2]
      obtain ⟨A3, c3, rfl, h3⟩ := hO3.form
      clear h3
      have B3 := Lib.hid (hB.out.trans (hb3.mono hB.out.size))
      have B4 : Hid (Below w.heap.size w w3) := Lib.hid (Below.then hB0 B3.out)
      have S3 := Lib.hid (Nat.le_trans hB0.size hB.out.size)
      have O3 := Lib.hid hO3
      clear hO3 hb3
      go_wp2_with fail
      go_ret2
      exact ⟨A3, c3, rfl, O3.out.base S3.out, B4.out⟩
end Go.Proofs.Ytkfbnaafpikgfaa
