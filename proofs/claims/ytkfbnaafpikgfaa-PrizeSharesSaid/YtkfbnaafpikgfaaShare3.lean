/-
  What bullionref04's functions answer.
-/
import Derived.Test.YtkfbnaafpikgfaaShare2
import Derived.Test.YtkfbnaafpikgfaaRef01g
import Derived.Test.YtkfbnaafpikgfaaRef02b
namespace Go.Proofs.Ytkfbnaafpikgfaa
open Go.RowKit
set_option linter.unusedVariables false

theorem Below.allocT' {a w : World} (h : Below a.heap.size a w) (o : Obj) : Below a.heap.size a (w.alloc o) := h.alloc h.size o
/-! ### append of one number to a list that the call owns -/
theorem u64l_under : Try.prog.underlying 43 = some (.slice 22) := by kernel_rfl
theorem wpList_append_u64 {ops : Array Oper} {rest : List Oper} {o : Oper} {a : Act} {w : World} {Q : Exit → Act → World → Prop} (hgd : o.guard = none) (s x : Operand)
    (ho : o.op = .call { callee := .builtin .append, args := #[s, x], argTypes := #[43, 43] }) (B : Nat) (v : Value) (l : List Nat) (hs : a.eval s = v) (hown : OwnL w B v l)
    (b c y : Nat) (hx : a.eval x = .slice (some ⟨b, 0, none⟩) 1 c) (hc : w.cell? ⟨b, 0, none⟩ = some (.int .u64 ((y : Nat) : Int))) (m : Nat) (hlm : l.length = m) (hl : l.length < 100000) (hB : B ≤ w.heap.size)
    (h : ∀ A cap w', OwnL w' B (.slice A (m + 1) cap) (l ++ [y]) → w.grownBy w' v.ownBlock → wpList Try.prog ops Q rest (a.put o.dst (.slice A (m + 1) cap)) w') : wpList Try.prog ops Q (o :: rest) a w := by
  obtain ⟨i0, hi, hz0, hz1, hz2⟩ := info_parts info64
  refine wpList_append_own _ hgd s x 43 ho B 22 i0 (.int .u64 0) 1 8 u64l_under hi hz0 hz1 hz2 rfl (by decide) v l.length _ hs hown ⟨b, 0, none⟩ 1 c [.int .u64 ((y : Nat) : Int)] hx rfl ?_ ?_ (by unfold maxLen; omega) (by omega) hB ?_
  · intro j u hj
    cases j with
    | zero =>
      simp at hj
      subst hj
      simpa [Addr.add] using hc
    | succ j => simp at hj
  · intro u hu
    simp at hu
    subst hu
    rfl
  · intro v' w' hown' hg _
    have h2 : OwnL w' B v' (l ++ [y]) := by
      unfold OwnL
      simpa using hown'
    obtain ⟨A, cap, rfl, _⟩ := h2.form
    rw [show (l ++ [y]).length = m + 1 by simp [hlm]] at h2 ⊢
    exact h A cap w' h2 hg
theorem below_grown {W w w' : World} {B : Nat} {v : Value} {l : List Nat} (h : Below B W w) (hB : B ≤ W.heap.size) (hown : OwnL w B v l) (hg : w.grownBy w' v.ownBlock) : Below B W w' :=
  h.grown hg (Nat.le_trans hB h.size) (fun k e => (World.ownsRow.lt hown k e).1)
set_option maxHeartbeats 1000000 in
theorem rwhole04_any (A : Option Addr) (xs : List Nat) (n c : Nat) (hn : xs.length = n) (hx : ∀ i, xs.getD i 0 < 18446744073709551616) (hm : n ≤ 9223372036854775807) (w : World) (hU : U64s w A xs) :
    Calls Try.prog 85 #[.slice A n c] w fun e w' => e = .returned (.tuple #[.int .u64 ((wholeT xs : Nat) : Int), .int .i64 (wholeE xs)]) ∧ Below w.heap.size w w' := by
  by_cases h1 : 256 < n
  · have e1 : wholeT xs = 0 := by unfold wholeT; rw [if_pos (by omega)]
    have e2 : wholeE xs = 40 := by unfold wholeE; rw [if_pos (by omega)]
    rw [e1, e2]
    clear e1 e2 hn hx hm hU
    go_enter Try.func85, Try.ntmps85
    go_wp2_with fail
    go_ret2
    exact ⟨rfl, Below.refl _ _⟩
  · have HS := Lib.hid (rsum_any A xs n c hn hx (by omega) w hU)
    have hlen := total_len xs hx (by omega) n (by omega)
    rw [← hn, List.take_length] at hlen
    have e1 : wholeT xs = fit (total xs) := by unfold wholeT; rw [if_neg (by omega)]
    have e2 : wholeE xs = if total xs ≤ 18446744073709551615 then 0 else 40 := by unfold wholeE; rw [if_neg (by omega)]
    rw [e1]
    have hfb : fitB (total xs) = decide (total xs ≤ 18446744073709551615) := by unfold fitB; rw [mostN_eq]
    by_cases h2 : total xs ≤ 18446744073709551615
    all_goals
      first | rw [if_pos h2] at e2 | rw [if_neg h2] at e2 | fail
      first | rw [decide_eq_true h2] at hfb | rw [decide_eq_false h2] at hfb | fail
      rw [e2]
      (try rw [fit_gt h2])
      have HFB := Lib.hid hfb
      generalize total xs = tx at *
      (try rw [fit_le h2])
      clear e1 e2 hn hx hm hU hfb
      go_enter Try.func85, Try.ntmps85
      go_wp2_with fail
      refine HS.out.mono ?_
      rintro e w1 ⟨A1, x1, rfl, hN1, hb1, _⟩
      go_wp2_with fail
      refine (uint_any A1 _ x1 tx _ hN1 (by omega)).mono ?_
      rw [HFB.out]
      (try rw [fit_le h2])
      rintro e w2 ⟨rfl, hb2⟩
      go_wp2_with fail
      go_ret2
      exact ⟨rfl, (by (repeat (first | exact Below.refl _ _ | assumption | (refine Below.allocT ?_ _) | refine Below.drew ?_ | refine below_drewN ?_ _ | (refine Below.then ?_ (by assumption)) | (refine Below.setRow ?_ ?_ _; rotate_left; (focus (first | exact Nat.lt_succ_self _ | ((repeat rw [World.size_alloc]); omega) | (simp; done) | (simp; omega) | omega))) | (refine Below.setCell ?_ ?_ _; rotate_left; (focus (first | exact Nat.lt_succ_self _ | ((repeat rw [World.size_alloc]); omega) | (simp; done) | (simp; omega) | omega))) | (refine Below.then' ?_ (by assumption) ?_; rotate_left; (focus (first | exact Nat.lt_succ_self _ | ((repeat rw [World.size_alloc]); omega) | (simp; done) | (simp; omega) | omega))) | fail)); (first | done | fail))⟩
theorem take_snoc_getD {l : List Nat} {i : Nat} (h : i < l.length) : l.take (i + 1) = l.take i ++ [l.getD i 0] := by
  rw [List.take_succ_eq_append_getElem h, List.getD_eq_getElem?_getD, List.getElem?_eq_getElem h]; rfl
theorem partsN_getD (t : Nat) {xs : List Nat} {i : Nat} (h : i < xs.length) : (partsN t xs).getD i 0 = partN t (total xs) (xs.getD i 0) := by
  unfold partsN
  rw [List.getD_eq_getElem?_getD, List.getElem?_map, List.getElem?_eq_getElem h, List.getD_eq_getElem?_getD, List.getElem?_eq_getElem h]; rfl
theorem getD_mem {xs : List Nat} {i : Nat} (h : i < xs.length) : xs.getD i 0 ≤ total xs := getD_le_total
set_option maxRecDepth 100000 in
set_option maxHeartbeats 2000000 in
theorem rsplit_any (t n c : Nat) (A : Option Addr) (xs : List Nat) (ht : t < 18446744073709551616) (hx : ∀ i, xs.getD i 0 < 18446744073709551616) (hn : xs.length = n) (hm : n ≤ 9223372036854775807) (w : World) (hU : U64s w A xs) (hA : 0 < n → ∀ x, A = some x → x.block < w.heap.size) :
    Calls Try.prog 59 #[.int .u64 t, .slice A n c] w (SplitPost w t xs) := by
  have HW := Lib.hid (rwhole04_any A xs n c hn hx hm w hU)
  have HU := Lib.hid hU
  rcases wholeE_cases xs with he | he
  · have he' := wholeE_zero he
    rw [he, he'.2.2] at HW
    have HV : Hid (leftV t xs = t - total ((partsN t xs).take n) ∧ partsV t xs = (partsN t xs).take n ∧ wholeE xs = 0) := Lib.hid (by
      have hl : (partsN t xs).take n = partsN t xs := List.take_of_length_le (by simp [partsN, hn])
      rw [hl]; simp [leftV, partsV, he])
    have hpl : (partsN t xs).length = n := by simp [partsN, hn]
    have HG : Hid (∀ i, i < n → (partsN t xs).getD i 0 = partN t (total xs) (xs.getD i 0)) := Lib.hid fun i hi => partsN_getD t (by rw [hn]; exact hi)
    have HT : Hid (∀ i, i < n → (partsN t xs).take (i + 1) = (partsN t xs).take i ++ [(partsN t xs).getD i 0] ∧ total ((partsN t xs).take (i + 1)) = total ((partsN t xs).take i) + (partsN t xs).getD i 0 ∧ total ((partsN t xs).take (i + 1)) ≤ t) := Lib.hid fun i hi =>
      ⟨take_snoc_getD (by rw [hpl]; exact hi), total_take_succ _ _ (by rw [hpl]; exact hi), Nat.le_trans (total_take_le _ _) (partsN_le t xs)⟩
    have HXT : Hid (∀ i, xs.getD i 0 ≤ total xs) := Lib.hid fun i => getD_le_total
    have hLT : ∀ i, i ≤ n → ((partsN t xs).take i).length = i := fun i hi => by rw [List.length_take, hpl]; omega
    have HLT := Lib.hid hLT
    have htx := he'.2.1
    have hn256 : n ≤ 256 := by rw [← hn]; exact he'.1
    have HN := Lib.hid hn
    generalize hP : partsN t xs = P at *
    generalize htt : total xs = tx at *
    clear he he' hU hP htt hpl hLT
    go_enter Try.func59, Try.ntmps59
    go_wp2_with fail
    refine HW.out.mono ?_
    rintro e w1 ⟨rfl, hb1⟩
    clear HW
    go_wp2_with fail
    go_loopw [9, 10, 11] (fun x y z wr => ∃ (i lf : Nat), z = .int .i64 i ∧ y = .int .u64 lf ∧ i ≤ n ∧ Hid (lf = t - total (P.take i)) ∧ OwnL wr w.heap.size x (P.take i) ∧ Below w.heap.size w wr) (fun _ _ z _ => n - (intOf z).toNat)
    case atStart => exact ⟨0, t, rfl, rfl, by omega, Lib.hid (by simp [total]), OwnL.nil _ _, hb1⟩
    case round =>
      obtain ⟨i, lf, rfl, rfl, hi, hlf, hown, hB⟩ := hrel
      clear hb1
      by_cases hlt : i < n
      · obtain ⟨b, off, rfl, hbb, hcell⟩ := HU.out (by rw [HN.out]; omega)
        have hcx := (hB.cell (p := ⟨b, off + i, none⟩) hbb).trans (hcell i (by rw [HN.out]; exact hlt))
        have hxi := hx i
        have hxt := HXT.out i
        have hg := HG.out i hlt
        obtain ⟨ht1, ht2, ht3⟩ := HT.out i hlt
        have hll := HLT.out i (by omega)
        generalize xs.getD i 0 = x at *
        have hpt := partN_le (t := t) hxt
        generalize hp : P.getD i 0 = p at *
        obtain ⟨lf2, hlf2⟩ : ∃ lf2, lf2 = t - total (P.take (i + 1)) := ⟨_, rfl⟩
        have E1 : IntKind.u64.wrap ((lf : Int) - (p : Int)) = (lf2 : Int) := by
          have := hlf.out
          rw [show (lf : Int) - (p : Int) = ((lf2 : Nat) : Int) by omega]; exact Bits.wrapN _ (by omega)
        have hle2 : lf2 ≤ t := by omega
        have h00 : p = 0 → lf2 = lf := fun h => by have := hlf.out; omega
        have HL2 := Lib.hid hlf2
        have HT1 := Lib.hid ht1
        have HO := Lib.hid hown
        have HLL : Hid ((P.take i).length = i ∧ (P.take i).length < 100000) := Lib.hid ⟨hll, by omega⟩
        clear hcell hx hlf ht1 ht2 ht3 hlf2 hown hll hp
        by_cases h0 : 0 < tx
        · clear h00
          have HD := Lib.hid (fun W => rdown_any t x tx ht hxi (by omega) W)
          rw [show quoV (t * x) tx = p by rw [hg]; unfold quoV partN at *; rw [if_neg (by omega)] at hpt ⊢; rw [if_neg (by omega)]; exact fit_le (by omega)] at HD
          generalize quoE (t * x) tx = qe at *
          clear hg hpt
          go_wp2_with fail
          refine (HD.out _).mono ?_
          rintro e w2 ⟨rfl, hb2⟩
          have HO2 := Lib.hid (HO.out.stay hb2)
          have hB2 := hB.trans (hb2.mono hB.size)
          clear hB hb2 HO hcx
          have HS2 : Hid (∀ o : Obj, w.heap.size ≤ (w2.alloc o).heap.size) := Lib.hid fun o => by have := hB2.size; rw [World.size_alloc]; omega
          go_wp2_with (at_builtin; refine wpList_append_u64 rfl _ _ rfl w.heap.size _ (P.take i) rfl (HO2.out.stay ((Below.refl _ _).alloc (Nat.le_refl _) (.cells #[.int .u64 (p : Int)] 22))) w2.heap.size 1 p rfl (World.cell?_alloc_new _ _ _ _) i HLL.out.1 HLL.out.2 (HS2.out _) ?_; intro A3 c3 w3 hO3 hg3; have hB3 := below_grown (Below.allocT' hB2 (.cells #[.int .u64 (p : Int)] 22)) (Nat.le_refl _) (HO2.out.stay ((Below.refl _ _).alloc (Nat.le_refl _) (.cells #[.int .u64 (p : Int)] 22))) hg3)
          exact ⟨⟨i + 1, lf2, by go_num, rfl, by omega, HL2, by rw [HT1.out]; exact hO3, hB3⟩, by simp [intOf]; omega⟩
        · obtain rfl : p = 0 := by rw [hg]; unfold partN; rw [if_pos (by omega)]
          obtain rfl : lf2 = lf := h00 rfl
          clear h00
          have E1' : IntKind.u64.wrap (lf2 : Int) = (lf2 : Int) := Bits.wrapN _ (by omega)
          have HS2 : Hid (∀ o : Obj, w.heap.size ≤ (wr.alloc o).heap.size) := Lib.hid fun o => by have := hB.size; rw [World.size_alloc]; omega
          clear hg hpt E1
          go_wp2_with (at_builtin; refine wpList_append_u64 rfl _ _ rfl w.heap.size _ (P.take i) rfl (HO.out.stay ((Below.refl _ _).alloc (Nat.le_refl _) (.cells #[.int .u64 0] 22))) wr.heap.size 1 0 rfl (show _ = some (Value.int .u64 ((0 : Nat) : Int)) from World.cell?_alloc_new _ _ _ _) i HLL.out.1 HLL.out.2 (HS2.out _) ?_; intro A3 c3 w3 hO3 hg3; have hB3 := below_grown (Below.allocT' hB (.cells #[.int .u64 0] 22)) (Nat.le_refl _) (HO.out.stay ((Below.refl _ _).alloc (Nat.le_refl _) (.cells #[.int .u64 0] 22))) hg3)
          exact ⟨⟨i + 1, lf2, by go_num, rfl, by omega, HL2, by rw [HT1.out]; exact hO3, hB3⟩, by simp [intOf]; omega⟩
      · obtain rfl : i = n := by omega
        have hlf' := hlf.out
        subst hlf'
        go_wp2_with fail
        go_ret3
        exact ⟨_, by rw [HV.out.1, HV.out.2.2]; rfl, by rw [HV.out.2.1]; exact hown, hB⟩
  · rw [he] at HW
    have HV : Hid (leftV t xs = 0 ∧ partsV t xs = [] ∧ wholeE xs = 40) := Lib.hid ⟨by simp [leftV, he], by simp [partsV, he], he⟩
    generalize wholeT xs = wt at *
    clear he hU hx hA hn
    go_enter Try.func59, Try.ntmps59
    go_wp2_with fail
    refine HW.out.mono ?_
    rintro e w1 ⟨rfl, hb1⟩
    go_wp2_with fail
    go_ret3
    exact ⟨.slice none 0 0, by rw [HV.out.1, HV.out.2.2]; rfl, by rw [HV.out.2.1]; exact OwnL.nil _ _, hb1⟩
end Go.Proofs.Ytkfbnaafpikgfaa
