/-
  The plain law of CoderBack: what is written is read as it was; cut off it isn't all there.
-/
import Derived.Test.YtkkncijbedfdfaaCoderP
namespace Go.Proofs.Ytkkncijbedfdfaa
open Go.RowKit
set_option linter.unusedVariables false

theorem take_front {a r : List Nat} {L : Nat} (h : a.length ≤ L) : (a ++ r).take L = a ++ r.take (L - a.length) := by
  rw [List.take_append, List.take_of_length_le h]
theorem take_cut {a r : List Nat} {L : Nat} (h : L < a.length) : (a ++ r).take L = a.take L := by
  rw [List.take_append, show L - a.length = 0 by omega]; simp
/-- A number that stands at a reader's place, all of it or cut off. -/
theorem num_there {t : Rd} {m M L : Nat} {r : List Nat} (he : t.e = 0) (hm : m < 18446744073709551616) (hM : m ≤ M) (hd : t.xs.drop t.at_ = (formN m ++ r).take L) (hL : (formN m).length ≤ L) : t.num M = (m, ⟨t.xs, t.at_ + (formN m).length, 0⟩) := by
  have hs : t.scan = (m, (formN m).length, 0) := by
    unfold Rd.scan
    rw [hd, take_front hL, scanL_form m _ 0 0 (by simpa using hm) (.inl rfl)]
    simp
  rw [Rd.num_good he (by rw [hs]) (by rw [hs]; exact hM), hs]
theorem num_cut {t : Rd} {m M L : Nat} {r : List Nat} (he : t.e = 0) (hm : m < 18446744073709551616) (hd : t.xs.drop t.at_ = (formN m ++ r).take L) (hL : L < (formN m).length) : t.num M = (0, ⟨t.xs, t.at_, 50⟩) := by
  have hs : t.scan = (0, 0, 50) := by
    unfold Rd.scan
    rw [hd, take_cut hL]
    exact scanL_cut m L 0 0 (by simpa using hm) (.inl rfl) hL
  rw [Rd.num_fail he (by rw [hs]; decide), hs]
theorem drop_more {xs a r : List Nat} {at_ L : Nat} (hd : xs.drop at_ = (a ++ r).take L) (hL : a.length ≤ L) : xs.drop (at_ + a.length) = r.take (L - a.length) := by
  rw [← List.drop_drop, hd, take_front hL, List.drop_left]
theorem int_nat (t : Rd) (n : Nat) : t.int (n : Int) = t.num n := by
  unfold Rd.int
  rw [if_pos (by omega)]; rfl
theorem raw_there {t : Rd} {b r : List Nat} {L : Nat} (he : t.e = 0) (hb : b.length < 18446744073709551616) (hd : t.xs.drop t.at_ = ((formN b.length ++ b) ++ r).take L) (hL : (formN b.length ++ b).length ≤ L) : t.raw (b.length : Int) = (b, ⟨t.xs, t.at_ + (formN b.length ++ b).length, 0⟩) := by
  rw [List.length_append] at hL
  rw [List.append_assoc] at hd
  have hn := num_there (M := b.length) he hb (Nat.le_refl _) hd (by omega)
  have hd2 := drop_more hd (by omega)
  have hlen : t.xs.length - (t.at_ + (formN b.length).length) = ((b ++ r).take (L - (formN b.length).length)).length := by rw [← hd2, List.length_drop]
  rw [take_front (by omega), List.length_append] at hlen
  unfold Rd.raw
  rw [if_pos he, int_nat, hn]
  simp only [if_true]
  rw [if_neg (by omega), hd2, take_front (by omega), List.take_left, List.length_append, Nat.add_assoc]
theorem raw_cut {t : Rd} {b r : List Nat} {L : Nat} (he : t.e = 0) (hb : b.length < 18446744073709551616) (hd : t.xs.drop t.at_ = ((formN b.length ++ b) ++ r).take L) (hL : L < (formN b.length ++ b).length) : (t.raw (b.length : Int)).2.e = 50 := by
  rw [List.length_append] at hL
  rw [List.append_assoc] at hd
  unfold Rd.raw
  rw [if_pos he, int_nat]
  by_cases h1 : L < (formN b.length).length
  · rw [num_cut (M := b.length) he hb hd h1]
    simp
  · have hn := num_there (M := b.length) he hb (Nat.le_refl _) hd (by omega)
    have hd2 := drop_more hd (by omega)
    have hlen : t.xs.length - (t.at_ + (formN b.length).length) = ((b ++ r).take (L - (formN b.length).length)).length := by rw [← hd2, List.length_drop]
    rw [take_cut (by omega), List.length_take] at hlen
    rw [hn]
    simp only [if_true]
    rw [if_pos (by omega)]
/-! ### A number, a flag and a string, written and read -/
structure Tri where
  n : Nat
  f : Nat
  b : List Nat
structure Tri.Ok (o : Tri) : Prop where
  n : o.n < 18446744073709551616
  f : o.f ≤ 1
  b : o.b.length ≤ 140000
def Tri.enc (o : Tri) : List Nat := formN o.n ++ (formN o.f ++ (formN o.b.length ++ o.b))
def Tri.put (s : Wt) (o : Tri) : Wt := ((s.num o.n).num o.f).raw o.b
def Tri.get (t : Rd) (o : Tri) : Rd := (((t.num 18446744073709551615).2.num 1).2.raw (o.b.length : Int)).2
def encs (l : List Tri) : List Nat := (l.map Tri.enc).flatten
def puts (s : Wt) (l : List Tri) : Wt := l.foldl Tri.put s
def gets (t : Rd) (l : List Tri) : Rd := l.foldl Tri.get t
theorem put_zero {s : Wt} {b : List Nat} (h : (s.put b).e = 0) : s.e = 0 ∧ (s.put b).xs = s.xs ++ b := by
  by_cases h0 : s.e = 0
  · refine ⟨h0, ?_⟩
    by_cases h1 : 131072 < s.xs.length + b.length
    · rw [Wt.put_big h0 h1] at h; simp at h
    · rw [Wt.put_fit h0 (by omega)]
  · rw [Wt.put_bad h0] at h; exact absurd h h0
theorem Tri.put_zero {s : Wt} {o : Tri} (h : (Tri.put s o).e = 0) : s.e = 0 ∧ (Tri.put s o).xs = s.xs ++ o.enc := by
  obtain ⟨h1, x1⟩ := Go.Proofs.Ytkkncijbedfdfaa.put_zero h
  obtain ⟨h2, x2⟩ := Go.Proofs.Ytkkncijbedfdfaa.put_zero h1
  obtain ⟨h3, x3⟩ := Go.Proofs.Ytkkncijbedfdfaa.put_zero h2
  refine ⟨h3, ?_⟩
  unfold Tri.put Tri.enc
  show ((((s.num o.n).num o.f).put _).xs) = _
  rw [x1]
  show ((s.num o.n).put _).xs ++ _ = _
  rw [x2]
  show (s.put _).xs ++ _ ++ _ = _
  rw [x3]
  simp [List.append_assoc]
theorem puts_zero (l : List Tri) : ∀ s : Wt, (puts s l).e = 0 → s.e = 0 ∧ (puts s l).xs = s.xs ++ encs l := by
  induction l with
  | nil => intro s h; exact ⟨h, by simp [puts, encs]⟩
  | cons o r ih =>
    intro s h
    obtain ⟨h1, x1⟩ := ih (Tri.put s o) h
    obtain ⟨h2, x2⟩ := Tri.put_zero h1
    refine ⟨h2, ?_⟩
    show (puts (Tri.put s o) r).xs = _
    rw [x1, x2]
    simp [encs, List.append_assoc]
def zeroOrBig (e : Int) : Prop := e = 0 ∨ e = 3
theorem put_big {s : Wt} (h : zeroOrBig s.e) (b : List Nat) : zeroOrBig (s.put b).e := by
  unfold Wt.put
  split
  · split
    · exact .inr rfl
    · exact .inl rfl
  · exact h
theorem Tri.put_big {s : Wt} (h : zeroOrBig s.e) (o : Tri) : zeroOrBig (Tri.put s o).e := Go.Proofs.Ytkkncijbedfdfaa.put_big (Go.Proofs.Ytkkncijbedfdfaa.put_big (Go.Proofs.Ytkkncijbedfdfaa.put_big h _) _) _
theorem encs_succ {l : List Tri} {j : Nat} {o : Tri} (h : l[j]? = some o) : encs (l.take (j + 1)) = encs (l.take j) ++ o.enc := by
  have hj : j < l.length := (List.getElem?_eq_some_iff.1 h).1
  rw [List.take_succ_eq_append_getElem hj]
  have : l[j] = o := by rw [List.getElem?_eq_getElem hj] at h; exact Option.some.inj h
  rw [this]
  simp [encs]
theorem encs_split {l : List Tri} {j : Nat} {o : Tri} (h : l[j]? = some o) : (encs l).drop (encs (l.take j)).length = o.enc ++ encs (l.drop (j + 1)) := by
  have hj : j < l.length := (List.getElem?_eq_some_iff.1 h).1
  have h1 : encs l = encs (l.take j) ++ encs (l.drop j) := by
    unfold encs
    rw [← List.flatten_append, ← List.map_append, List.take_append_drop]
  rw [h1, List.drop_left, List.drop_eq_getElem_cons hj]
  have : l[j] = o := by rw [List.getElem?_eq_getElem hj] at h; exact Option.some.inj h
  rw [this]
  simp [encs]
/-- Read off the whole: each as it was. -/
theorem get_whole {xs r : List Nat} {at_ : Nat} {o : Tri} (ho : o.Ok) (hd : xs.drop at_ = o.enc ++ r) :
    (Rd.num ⟨xs, at_, 0⟩ 18446744073709551615) = (o.n, ⟨xs, at_ + (formN o.n).length, 0⟩) ∧
    (Rd.num ⟨xs, at_ + (formN o.n).length, 0⟩ 1) = (o.f, ⟨xs, at_ + (formN o.n).length + (formN o.f).length, 0⟩) ∧
    (Rd.raw ⟨xs, at_ + (formN o.n).length + (formN o.f).length, 0⟩ (o.b.length : Int)) = (o.b, ⟨xs, at_ + o.enc.length, 0⟩) := by
  have hn := ho.n
  have hf := ho.f
  have hb := ho.b
  unfold Tri.enc at hd ⊢
  rw [List.append_assoc, List.append_assoc] at hd
  have e1 : xs.drop at_ = (formN o.n ++ (formN o.f ++ ((formN o.b.length ++ o.b) ++ r))).take (formN o.n ++ (formN o.f ++ ((formN o.b.length ++ o.b) ++ r))).length := by rw [List.take_length]; exact hd
  have g1 := num_there (t := ⟨xs, at_, 0⟩) (M := 18446744073709551615) rfl hn (by omega) e1 (by simp)
  have e2 := drop_more e1 (by simp)
  have g2 := num_there (t := ⟨xs, at_ + (formN o.n).length, 0⟩) (M := 1) rfl (by omega) hf e2 (by simp)
  have e3 := drop_more e2 (by simp)
  have g3 := raw_there (t := ⟨xs, at_ + (formN o.n).length + (formN o.f).length, 0⟩) rfl (by omega) e3 (by simp)
  refine ⟨g1, g2, ?_⟩
  rw [g3]
  simp only [List.length_append, Prod.mk.injEq, Rd.mk.injEq, true_and, and_true]
  omega
/-- Read off what is cut off: the first failure is that it isn't all there. -/
theorem get_part {xs r : List Nat} {at_ L : Nat} {o : Tri} (ho : o.Ok) (hd : xs.drop at_ = (o.enc ++ r).take L) :
    (o.enc.length ≤ L ∧ Tri.get ⟨xs, at_, 0⟩ o = ⟨xs, at_ + o.enc.length, 0⟩) ∨ (Tri.get ⟨xs, at_, 0⟩ o).e = 50 := by
  have hn := ho.n
  have hf := ho.f
  have hb := ho.b
  have key : ∀ t : Rd, t.e = 50 → ∀ m, (t.raw m).2.e = 50 := fun t ht m => by
    unfold Rd.raw
    rw [if_neg (by rw [ht]; decide)]; exact ht
  have hd0 := hd
  unfold Tri.enc at hd
  rw [List.append_assoc, List.append_assoc] at hd
  unfold Tri.get
  by_cases h1 : L < (formN o.n).length
  · rw [num_cut (t := ⟨xs, at_, 0⟩) (M := 18446744073709551615) rfl hn hd h1]
    right
    have : Rd.num ⟨xs, at_, 50⟩ 1 = (0, ⟨xs, at_, 50⟩) := Rd.num_bad (by simp) 1
    simp only [this]
    exact key _ rfl _
  · have g1 := num_there (t := ⟨xs, at_, 0⟩) (M := 18446744073709551615) rfl hn (by omega) hd (by omega)
    have e2 := drop_more hd (by omega)
    rw [g1]
    simp only []
    by_cases h2 : L - (formN o.n).length < (formN o.f).length
    · rw [num_cut (t := ⟨xs, at_ + (formN o.n).length, 0⟩) (M := 1) rfl (by omega) e2 h2]
      right
      exact key _ rfl _
    · have g2 := num_there (t := ⟨xs, at_ + (formN o.n).length, 0⟩) (M := 1) rfl (by omega) hf e2 (by omega)
      have e3 := drop_more e2 (by omega)
      rw [g2]
      simp only []
      by_cases h3 : L - (formN o.n).length - (formN o.f).length < (formN o.b.length ++ o.b).length
      · right
        exact raw_cut (t := ⟨xs, at_ + (formN o.n).length + (formN o.f).length, 0⟩) rfl (by omega) e3 h3
      · left
        have g3 := raw_there (t := ⟨xs, at_ + (formN o.n).length + (formN o.f).length, 0⟩) rfl (by omega) e3 (by omega)
        rw [g3]
        unfold Tri.enc
        rw [List.length_append] at h3
        simp only [List.length_append, Rd.mk.injEq, true_and, and_true]
        omega
theorem get_fifty {t : Rd} (h : t.e = 50) (o : Tri) : (Tri.get t o).e = 50 := by
  have hne : t.e ≠ 0 := by rw [h]; decide
  unfold Tri.get
  rw [Rd.num_bad hne]
  simp only []
  rw [Rd.num_bad hne]
  simp only []
  unfold Rd.raw
  rw [if_neg hne]; exact h
/-- The reader of what is cut off, behind j ops. -/
def Part (l : List Tri) (c j : Nat) (t : Rd) : Prop := t.e = 50 ∨ (t = ⟨(encs l).take c, (encs (l.take j)).length, 0⟩ ∧ (encs (l.take j)).length ≤ c)
theorem Part.step {l : List Tri} {c j : Nat} {t : Rd} {o : Tri} (h : Part l c j t) (hj : l[j]? = some o) (ho : o.Ok) (hc : c < (encs l).length) : Part l c (j + 1) (Tri.get t o) := by
  rcases h with h | ⟨rfl, hle⟩
  · exact .inl (get_fifty h o)
  · have hd : ((encs l).take c).drop (encs (l.take j)).length = (o.enc ++ encs (l.drop (j + 1))).take (c - (encs (l.take j)).length) := by
      rw [List.drop_take, encs_split hj]
    rcases get_part ho hd with ⟨h1, h2⟩ | h2
    · refine .inr ⟨?_, ?_⟩
      · rw [h2, encs_succ hj, List.length_append]
      · rw [encs_succ hj, List.length_append]; omega
    · exact .inl h2
theorem Part.end_ {l : List Tri} {c : Nat} {t : Rd} (h : Part l c l.length t) (hc : c < (encs l).length) : t.e = 50 := by
  rcases h with h | ⟨_, h⟩
  · exact h
  · rw [List.take_length] at h; omega
theorem puts_take (s : Wt) {l : List Tri} {j : Nat} {o : Tri} (h : l[j]? = some o) : puts s (l.take (j + 1)) = Tri.put (puts s (l.take j)) o := by
  have hj : j < l.length := (List.getElem?_eq_some_iff.1 h).1
  have : l[j] = o := by rw [List.getElem?_eq_getElem hj] at h; exact Option.some.inj h
  rw [List.take_succ_eq_append_getElem hj, this]
  simp [puts]
end Go.Proofs.Ytkkncijbedfdfaa
