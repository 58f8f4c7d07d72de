/-
  What share.Spread answers.
-/
import Derived.Test.YtncobbhhjkdllaaShare
import Derived.Laws.OwnMore
namespace Go.Proofs.Ytncobbhhjkdllaa
open Go.RowKit
set_option linter.unusedVariables false

def spreadI (l ws : List Nat) (r : Nat) : Nat → List Nat × Nat
  | 0 => (l, r)
  | i + 1 => if 0 < ws.getD i 0 ∧ 0 < (spreadI l ws r i).2 then ((spreadI l ws r i).1.set i ((spreadI l ws r i).1.getD i 0 + 1), (spreadI l ws r i).2 - 1) else spreadI l ws r i
theorem total_set {l : List Nat} {i : Nat} (h : i < l.length) : total (l.set i (l.getD i 0 + 1)) = total l + 1 := by
  induction l generalizing i with
  | nil => simp at h
  | cons x r ih =>
    cases i with
    | zero => simp [total_cons]; omega
    | succ i =>
      have := ih (i := i) (by simpa using h)
      simp only [List.set_cons_succ, total_cons, List.getD_cons_succ] at this ⊢
      omega
theorem spreadI_len (l ws : List Nat) (r i : Nat) : (spreadI l ws r i).1.length = l.length := by
  induction i with
  | zero => rfl
  | succ i ih => simp only [spreadI]; split <;> simp [ih]
theorem spreadI_sum (l ws : List Nat) (r i : Nat) (h : i ≤ l.length) : total (spreadI l ws r i).1 + (spreadI l ws r i).2 = total l + r := by
  induction i with
  | zero => rfl
  | succ i ih =>
    have h1 := ih (by omega)
    simp only [spreadI]
    split
    · rename_i hc
      rw [total_set (by rw [spreadI_len]; omega)]
      omega
    · exact h1
theorem getD_le_total {l : List Nat} {i : Nat} : l.getD i 0 ≤ total l := by
  rw [List.getD_eq_getElem?_getD]
  rcases Nat.lt_or_ge i l.length with h | h
  · rw [List.getElem?_eq_getElem h]; exact le_total (List.getElem_mem h)
  · rw [List.getElem?_eq_none h]; simp
def spreadV (t : Nat) (xs : List Nat) : List Nat := if wholeE xs = 0 then if total xs = 0 then [] else (spreadI (partsN t xs) xs (t - total (partsN t xs)) xs.length).1 else []
def spreadE (t : Nat) (xs : List Nat) : Int := if wholeE xs = 0 then if total xs = 0 then 20 else 0 else 40
def ListPost (w : World) (l : List Nat) (ec : Int) (e : Ending) (W' : World) : Prop := ∃ v, e = .returned (.tuple #[v, .int .i64 ec]) ∧ OwnL W' w.heap.size v l ∧ Below w.heap.size w W'
theorem OwnL.stored {W : World} {B g n cap : Nat} {l : List Nat} (h : OwnL W B (.slice (some ⟨g, 0, none⟩) n cap) l) (hn : l.length = n) (i x : Nat) : OwnL (W.setCell ⟨g, i, none⟩ (.int .u64 (x : Int))) B (.slice (some ⟨g, 0, none⟩) n cap) (l.set i x) := by
  unfold OwnL at h ⊢
  rw [hn] at h
  rw [List.length_set, hn, List.map_set]
  exact (World.ownsRow.stored h i _).1
theorem OwnL.at {W : World} {B g n cap : Nat} {l : List Nat} (h : OwnL W B (.slice (some ⟨g, 0, none⟩) n cap) l) (hn : l.length = n) {i : Nat} (hi : i < n) : W.cell? ⟨g, i, none⟩ = some (.int .u64 ((l.getD i 0 : Nat) : Int)) := by
  unfold OwnL at h
  rw [hn] at h
  rw [World.ownsRow.cellAt h i (by omega), List.getElem?_map, List.getElem?_eq_getElem (by omega), List.getD_eq_getElem?_getD, List.getElem?_eq_getElem (by omega)]
  rfl
theorem OwnL.free {W : World} {B g n cap : Nat} {l : List Nat} (h : OwnL W B (.slice (some ⟨g, 0, none⟩) n cap) l) (hn : l.length = n) (i : Nat) : W.frozen? ⟨g, i, none⟩ = false := by
  unfold OwnL at h
  rw [hn] at h
  exact World.ownsRow.frozenAt h i
theorem OwnL.some_of {W : World} {B : Nat} {v : Value} {l : List Nat} (h : OwnL W B v l) (hp : 0 < l.length) : ∃ g cap, v = .slice (some ⟨g, 0, none⟩) l.length cap ∧ B ≤ g := by
  rcases h.2 with ⟨rfl, h0⟩ | ⟨g, cap, cur, rfl, hg, _⟩
  · omega
  · exact ⟨g, cap, rfl, hg⟩
theorem total_zero_len {xs : List Nat} (h : total xs ≠ 0) : 0 < xs.length := by
  cases xs with
  | nil => exact absurd rfl h
  | cons x r => simp
set_option maxRecDepth 100000 in
set_option maxHeartbeats 2000000 in
theorem spread_any (t n c : Nat) (A : Option Addr) (xs : List Nat) (ht : t < 18446744073709551616) (hx : ∀ i, xs.getD i 0 < 18446744073709551616) (hn : xs.length = n) (hm : n ≤ 9223372036854775807) (w : World) (hU : U64s w A xs) (hA : 0 < n → ∀ x, A = some x → x.block < w.heap.size) :
    Calls Try.prog 38 #[.int .u64 t, .slice A n c] w (ListPost w (spreadV t xs) (spreadE t xs)) := by
  have HS := Lib.hid (splitl_any t n c A xs ht hx hn hm w hU hA)
  have HW := Lib.hid (fun W h => swhole_any A xs n c hn hx hm W h)
  have HU := Lib.hid hU
  rcases wholeE_cases xs with he | he
  · have he' := wholeE_zero he
    rw [he, he'.2.2] at HW
    by_cases h0 : total xs = 0
    · have HV : Hid (spreadV t xs = [] ∧ spreadE t xs = 20) := Lib.hid ⟨by simp [spreadV, he, h0], by simp [spreadE, he, h0]⟩
      rw [h0] at HW
      have HE := Lib.hid he
      clear he he' h0 hU hA hx hn
      go_enter Try.func38, Try.ntmps38
      go_wp2_with fail
      refine HS.out.mono ?_
      rintro e w1 ⟨v, rfl, hown, hb1⟩
      rw [HE.out]
      generalize leftV t xs = lf at *
      go_wp2_with fail
      refine (HW.out _ (HU.out.below hb1 (Nat.le_refl _))).mono ?_
      rintro e w2 ⟨rfl, rfl⟩
      go_wp2_with fail
      go_ret2
      exact ⟨.slice none 0 0, by rw [HV.out.2]; rfl, by rw [HV.out.1]; exact OwnL.nil _ _, hb1⟩
    · have HV : Hid (spreadV t xs = (spreadI (partsN t xs) xs (leftV t xs) n).1 ∧ spreadE t xs = 0) := Lib.hid ⟨by simp [spreadV, he, h0, leftV, hn], by simp [spreadE, he, h0]⟩
      have hlen : (partsV t xs).length = n := by simp [partsV, he, partsN, hn]
      have hpv : partsV t xs = partsN t xs := by simp [partsV, he]
      have hsum : total (partsN t xs) + leftV t xs = t := by
        have := partsN_le t xs
        simp only [leftV, he, if_true]; omega
      have hz : ((total xs : Nat) : Int) ≠ 0 := by omega
      have hz' : (((total xs : Nat) : Int) == 0) = false := beq_eq_false_iff_ne.2 hz
      have hnp := total_zero_len h0
      have hpl : (partsN t xs).length = n := by rw [← hpv]; exact hlen
      have HSUM := Lib.hid (fun i (h : i ≤ n) => (spreadI_sum (partsN t xs) xs (leftV t xs) i (by rw [hpl]; exact h)).trans hsum)
      have HLEN := Lib.hid (fun i => (spreadI_len (partsN t xs) xs (leftV t xs) i).trans hpl)
      have HE := Lib.hid he
      have HP := Lib.hid hpv
      have HN := Lib.hid hn
      generalize total xs = tx at *
      clear he he' h0 hU hz hsum hpv hlen
      go_enter Try.func38, Try.ntmps38
      go_wp2_with fail
      refine HS.out.mono ?_
      rintro e w1 ⟨v, rfl, hown, hb1⟩
      rw [HE.out]
      rw [HP.out] at hown
      have HW2 := Lib.hid (HW.out _ (HU.out.below hb1 (Nat.le_refl _)))
      obtain ⟨g, cap, rfl, hg⟩ := hown.some_of (by rw [hpl]; omega)
      rw [hpl] at hown ⊢
      have HO := Lib.hid hown
      obtain ⟨rr, hrr⟩ : ∃ rr, rr = leftV t xs := ⟨_, rfl⟩
      rw [← hrr] at HSUM HLEN HV ⊢
      have hU1 := HU.out.below hb1 (Nat.le_refl _)
      obtain ⟨b, off, rfl, hbb, hcell⟩ := HU.out (by rw [HN.out]; omega)
      have hbg : b < w.heap.size := hbb
      have hne : b ≠ g := by omega
      clear hown HS hrr HW HE hpl
      go_wp2_with fail
      refine HW2.out.mono ?_
      rintro e w2 ⟨rfl, rfl⟩
      go_wp2_with fail
      go_loopw [32, 7] (fun x y wr => ∃ (i r : Nat) (l : List Nat), x = .int .i64 i ∧ y = .int .u64 r ∧ i ≤ n ∧ Hid (spreadI (partsN t xs) xs rr i = (l, r)) ∧ l.length = n ∧ OwnL wr w.heap.size (.slice (some ⟨g, 0, none⟩) n cap) l ∧ Below w.heap.size w wr) (fun x _ _ => n - (intOf x).toNat)
      case atStart => exact ⟨0, rr, partsN t xs, rfl, rfl, by omega, Lib.hid rfl, HLEN.out 0, HO.out, hb1⟩
      case round =>
        obtain ⟨i, r, l, rfl, rfl, hi, hI, hl, hown, hB⟩ := hrel
        clear HO hb1 HW2 hU1
        by_cases hlt : i < n
        · have hcx := (hB.cell (p := ⟨b, off + i, none⟩) hbb).trans (hcell i (by rw [HN.out]; exact hlt))
          have hsm := HSUM.out i (by omega)
          rw [hI.out] at hsm
          simp only [] at hsm
          have hp1 := hown.at hl hlt
          have hp2 := hown.free hl i
          have hple : l.getD i 0 ≤ total l := getD_le_total
          have HSt : Hid (spreadI (partsN t xs) xs rr (i + 1) = if 0 < xs.getD i 0 ∧ 0 < r then (l.set i (l.getD i 0 + 1), r - 1) else (l, r)) := Lib.hid (by simp only [spreadI]; rw [hI.out])
          have hxi := hx i
          generalize xs.getD i 0 = x at *
          have HOst := Lib.hid (fun y : Nat => hown.stored hl i y)
          obtain ⟨p, hp⟩ : ∃ p, p = l.getD i 0 := ⟨_, rfl⟩
          rw [← hp] at HSt hp1 hple
          have HOw := Lib.hid hown
          have HL2 := Lib.hid hl
          clear hp hown hcell hx
          by_cases hx0 : 0 < x
          · by_cases hr0 : 0 < r
            · have E1 : IntKind.u64.wrap ((p : Int) + 1) = ((p + 1 : Nat) : Int) := by rw [show (p : Int) + 1 = ((p + 1 : Nat) : Int) by omega]; exact Bits.wrapN _ (by omega)
              have E2 : IntKind.u64.wrap ((r : Int) - 1) = ((r - 1 : Nat) : Int) := by rw [show (r : Int) - 1 = ((r - 1 : Nat) : Int) by omega]; exact Bits.wrapN _ (by omega)
              have HI2 := HSt.out
              rw [if_pos ⟨hx0, hr0⟩] at HI2
              have HI3 := Lib.hid HI2
              have hB2 : Below w.heap.size w (wr.setCell ⟨g, i, none⟩ (.int .u64 ((p + 1 : Nat) : Int))) := Below.setCell (p := ⟨g, i, none⟩) hB hg _
              have HB2 := Lib.hid hB2
              clear HI2 HSt hsm hple hB2
              go_wp2_with fail
              exact ⟨⟨i + 1, r - 1, l.set i (p + 1), by go_num, rfl, by omega, HI3, by rw [List.length_set]; exact HL2.out, HOst.out (p + 1), HB2.out⟩, by simp [intOf]; omega⟩
            · have HI2 := HSt.out
              rw [if_neg (fun h => hr0 h.2)] at HI2
              have HI3 := Lib.hid HI2
              clear HI2 HSt hsm hple
              go_wp2_with fail
              exact ⟨⟨i + 1, r, l, by go_num, rfl, by omega, HI3, HL2.out, HOw.out, hB⟩, by simp [intOf]; omega⟩
          · have HI2 := HSt.out
            rw [if_neg (fun h => hx0 h.1)] at HI2
            have HI3 := Lib.hid HI2
            clear HI2 HSt hsm hple
            go_wp2_with fail
            exact ⟨⟨i + 1, r, l, by go_num, rfl, by omega, HI3, HL2.out, HOw.out, hB⟩, by simp [intOf]; omega⟩
        · obtain rfl : i = n := by omega
          have HF : Hid (spreadV t xs = l) := Lib.hid (by rw [HV.out.1, hI.out])
          go_wp2_with fail
          go_ret2
          exact ⟨_, by rw [HV.out.2]; rfl, by rw [HF.out]; exact hown, hB⟩
  · have HV : Hid (spreadV t xs = [] ∧ spreadE t xs = 40) := Lib.hid ⟨by simp [spreadV, he], by simp [spreadE, he]⟩
    have HE := Lib.hid he
    clear he hU hA hx hn HW
    go_enter Try.func38, Try.ntmps38
    go_wp2_with fail
    refine HS.out.mono ?_
    rintro e w1 ⟨v, rfl, hown, hb1⟩
    rw [HE.out]
    generalize leftV t xs = lf at *
    go_wp2_with fail
    go_ret2
    exact ⟨.slice none 0 0, by rw [HV.out.2]; rfl, by rw [HV.out.1]; exact OwnL.nil _ _, hb1⟩
end Go.Proofs.Ytncobbhhjkdllaa
