/-
  The plain law of a report's bytes: what is written, what is read, and that these are each other's back.
-/
import Derived.Test.YtnakkjgnjffkpaaClone
import Derived.Test.YtnakkjgnjffkpaaBackP
namespace Go.Proofs.Ytnakkjgnjffkpaa
open Go.RowKit
set_option linter.unusedVariables false

def flatN (l : List Nat) : List Nat := l.flatMap formN
theorem flatN_nil : flatN [] = [] := rfl
theorem flatN_cons (m : Nat) (l : List Nat) : flatN (m :: l) = formN m ++ flatN l := rfl
theorem flatN_append (a b : List Nat) : flatN (a ++ b) = flatN a ++ flatN b := by unfold flatN; rw [List.flatMap_append]
theorem flatN_ok (l : List Nat) : bytesOk (flatN l) := .of fun x hx => by
  unfold flatN at hx
  obtain ⟨n, _, hn⟩ := List.mem_flatMap.1 hx
  exact formN_mem _ x hn
theorem flatN_le : ∀ (l : List Nat), (∀ x ∈ l, x < 18446744073709551616) → (flatN l).length ≤ 10 * l.length
  | [], _ => by simp [flatN]
  | x :: r, h => by
    have h1 := formN_len10 (h x (List.mem_cons_self ..))
    have h2 := flatN_le r (fun y hy => h y (List.mem_cons_of_mem _ hy))
    rw [flatN_cons, List.length_append, List.length_cons]; omega
/-! ### Written -/
def rowN (l : List Int) : List Nat := l.length :: l.map Int.toNat
def headN (r : Rep) : List Nat := [r.epoch.toNat, r.mode.toNat, if r.quorum then 1 else 0, r.present, r.active, r.minted, r.paid, r.kept, r.burned, r.fees]
def numsR (r : Rep) : List Nat := headN r ++ (rowN r.out ++ (rowN r.left ++ (rowN r.started ++ rowN r.done)))
def formR (r : Rep) : List Nat := flatN (numsR r)
def wtL (s : Wt) (l : List Nat) : Wt := l.foldl Wt.num s
theorem wtL_append (s : Wt) (a b : List Nat) : wtL s (a ++ b) = wtL (wtL s a) b := List.foldl_append ..
theorem wtL_cons (s : Wt) (a : Nat) (b : List Nat) : wtL s (a :: b) = wtL (s.num a) b := rfl
theorem wtL_ok : ∀ (l : List Nat) (s : Wt), s.Ok → (wtL s l).Ok
  | [], _, h => h
  | x :: r, s, h => wtL_ok r (s.num x) (h.num x)
theorem wtL_fit : ∀ (l : List Nat) (s : Wt), (∀ x ∈ l, x < 18446744073709551616) → s.e = 0 → s.xs.length + 10 * l.length ≤ 131072 → wtL s l = ⟨s.xs ++ flatN l, 0⟩
  | [], s, _, h0, _ => by cases s; simp at h0; simp [wtL, flatN, h0]
  | x :: r, s, h, h0, hl => by
    have h1 := formN_len10 (h x (List.mem_cons_self ..))
    rw [List.length_cons] at hl
    rw [wtL_cons]
    have e : s.num x = ⟨s.xs ++ formN x, 0⟩ := Wt.put_fit h0 (by omega)
    rw [e, wtL_fit r _ (fun y hy => h y (List.mem_cons_of_mem _ hy)) rfl (by show (s.xs ++ formN x).length + _ ≤ _; rw [List.length_append]; omega), flatN_cons, List.append_assoc]
theorem int_num {s : Wt} {n : Int} (h : 0 ≤ n) : s.int n = s.num n.toNat := by
  unfold Wt.int; rw [if_neg (by omega)]
/-- What a right report's numbers are. -/
structure Rep.Small (r : Rep) : Prop where
  ep : 0 ≤ r.epoch ∧ r.epoch ≤ 2147483647
  mo : 0 ≤ r.mode ∧ r.mode ≤ 2147483647
  wide : ∀ x ∈ [r.present, r.active, r.minted, r.paid, r.kept, r.burned, r.fees], x < 18446744073709551616
  out : (∀ z ∈ r.out, 0 ≤ z ∧ z ≤ 2147483647) ∧ r.out.length ≤ 256
  left : (∀ z ∈ r.left, 0 ≤ z ∧ z ≤ 2147483647) ∧ r.left.length ≤ 256
  started : (∀ z ∈ r.started, 0 ≤ z ∧ z ≤ 2147483647) ∧ r.started.length ≤ 256
  done : (∀ z ∈ r.done, 0 ≤ z ∧ z ≤ 2147483647) ∧ r.done.length ≤ 256
theorem placesB_small {l : List Int} {e : Int} (he : e ≤ 128) (h : placesB l e = true) : (∀ z ∈ l, 0 ≤ z ∧ z ≤ 2147483647) ∧ l.length ≤ 256 := by
  have := of_decide_eq_true h
  exact ⟨fun z hz => by have := this.1 z hz; omega, by omega⟩
theorem right_small7 {r : Rep} (h : rightA r = true) : r.Small := by
  unfold rightA at h
  simp only [Bool.and_eq_true, decide_eq_true_eq] at h
  obtain ⟨h1, h2, h3, h4, h5, h6, h7, h8⟩ := h
  have a1 := of_decide_eq_true h1
  have a2 := of_decide_eq_true h2
  have a3 := of_decide_eq_true h3
  exact ⟨by omega, by omega, fun x hx => by have := a1 x hx; omega, placesB_small (by omega) h5, placesB_small (by omega) h6, placesB_small (by omega) h7, placesB_small (by omega) h8⟩
theorem rowN_len (l : List Int) : (rowN l).length = l.length + 1 := by simp [rowN]
theorem rowN_lt {l : List Int} (h : (∀ z ∈ l, 0 ≤ z ∧ z ≤ 2147483647) ∧ l.length ≤ 256) : ∀ x ∈ rowN l, x < 18446744073709551616 := fun x hx => by
  rcases List.mem_cons.1 hx with rfl | hx
  · omega
  · obtain ⟨z, hz, rfl⟩ := List.mem_map.1 hx
    have := h.1 z hz
    omega
theorem headN_lt {r : Rep} (h : r.Small) : ∀ x ∈ headN r, x < 18446744073709551616 := fun x hx => by
  have h1 := h.ep
  have h2 := h.mo
  simp only [headN, List.mem_cons, List.not_mem_nil, or_false] at hx
  rcases hx with rfl | rfl | rfl | hx
  · omega
  · omega
  · split <;> omega
  · exact h.wide x (by simpa using hx)
theorem numsR_lt {r : Rep} (h : r.Small) : ∀ x ∈ numsR r, x < 18446744073709551616 := fun x hx => by
  unfold numsR at hx
  rcases List.mem_append.1 hx with hx | hx
  · exact headN_lt h x hx
  rcases List.mem_append.1 hx with hx | hx
  · exact rowN_lt h.out x hx
  rcases List.mem_append.1 hx with hx | hx
  · exact rowN_lt h.left x hx
  rcases List.mem_append.1 hx with hx | hx
  · exact rowN_lt h.started x hx
  · exact rowN_lt h.done x hx
theorem numsR_len {r : Rep} (h : r.Small) : (numsR r).length ≤ 1100 := by
  have := h.out.2
  have := h.left.2
  have := h.started.2
  have := h.done.2
  unfold numsR
  simp only [List.length_append, rowN_len]
  have : (headN r).length = 10 := rfl
  omega
theorem formR_len {r : Rep} (h : r.Small) : (formR r).length ≤ 11000 := by
  have h1 := flatN_le _ (numsR_lt h)
  have h2 := numsR_len h
  unfold formR; omega
theorem formR_ok (r : Rep) : bytesOk (formR r) := flatN_ok _
theorem wtR_form {r : Rep} (h : r.Small) : wtL Wt.none (numsR r) = ⟨formR r, 0⟩ := by
  have := wtL_fit (numsR r) Wt.none (numsR_lt h) rfl (by have := numsR_len h; show 0 + _ ≤ _; omega)
  rw [this]; rfl
/-! ### Read -/
def rdLoop : Nat → List Int → Rd → List Int × Rd
  | 0, l, t => (l, t)
  | n + 1, l, t => if t.e = 0 then rdLoop n (l ++ [(((t.num 2147483647).1 : Nat) : Int)]) (t.num 2147483647).2 else (l, t)
theorem rdLoop_bad {n : Nat} {l : List Int} {t : Rd} (h : t.e ≠ 0) : rdLoop n l t = (l, t) := by
  cases n with
  | zero => rfl
  | succ n => rw [rdLoop, if_neg h]
def rdList (t : Rd) : List Int × Rd := rdLoop (t.num 256).1 [] (t.num 256).2
def rd7 (t : Rd) : Nat → List Nat × Rd
  | 0 => ([], t)
  | i + 1 => ((rd7 t i).1 ++ [((rd7 t i).2.num 18446744073709551615).1], ((rd7 t i).2.num 18446744073709551615).2)
theorem rd7_len (t : Rd) : ∀ i, (rd7 t i).1.length = i
  | 0 => rfl
  | i + 1 => by rw [rd7, List.length_append, rd7_len t i]; rfl
theorem rd7_ok {t : Rd} (h : t.Ok) : ∀ i, (rd7 t i).2.Ok ∧ (rd7 t i).2.xs = t.xs
  | 0 => ⟨h, rfl⟩
  | i + 1 => ⟨(rd7_ok h i).1.num _, ((rd7 t i).2.num_xs _).trans (rd7_ok h i).2⟩
theorem rd7_lt {t : Rd} : ∀ (i : Nat) (x : Nat), x ∈ (rd7 t i).1 → x < 18446744073709551616
  | 0, x, h => by simp [rd7] at h
  | i + 1, x, h => by
    rw [rd7] at h
    rcases List.mem_append.1 h with h | h
    · exact rd7_lt i x h
    · rw [List.mem_singleton] at h
      have := Rd.num_le (rd7 t i).2 18446744073709551615
      omega
theorem rdLoop_ok : ∀ (n : Nat) (l : List Int) {t : Rd}, t.Ok → (rdLoop n l t).2.Ok ∧ (rdLoop n l t).2.xs = t.xs
  | 0, l, t, h => ⟨h, rfl⟩
  | n + 1, l, t, h => by
    rw [rdLoop]
    split
    · obtain ⟨a, b⟩ := rdLoop_ok n (l ++ [(((t.num 2147483647).1 : Nat) : Int)]) (h.num 2147483647)
      exact ⟨a, b.trans (t.num_xs _)⟩
    · exact ⟨h, rfl⟩
theorem rdLoop_len : ∀ (n : Nat) (l : List Int) (t : Rd), (rdLoop n l t).1.length ≤ l.length + n
  | 0, l, t => by simp [rdLoop]
  | n + 1, l, t => by
    rw [rdLoop]
    split
    · have := rdLoop_len n (l ++ [(((t.num 2147483647).1 : Nat) : Int)]) (t.num 2147483647).2
      rw [List.length_append, List.length_singleton] at this
      omega
    · show l.length ≤ _; omega
theorem rdList_ok {t : Rd} (h : t.Ok) : (rdList t).2.Ok ∧ (rdList t).2.xs = t.xs := by
  obtain ⟨a, b⟩ := rdLoop_ok (t.num 256).1 [] (h.num 256)
  exact ⟨a, b.trans (t.num_xs _)⟩
theorem rdList_len (t : Rd) : (rdList t).1.length ≤ 256 := by
  have := rdLoop_len (t.num 256).1 [] (t.num 256).2
  have := t.num_le 256
  unfold rdList
  rw [List.length_nil] at *
  omega
def t1R (t : Rd) : Rd := (t.num 2147483647).2
def t2R (t : Rd) : Rd := ((t1R t).num 2147483647).2
def t3R (t : Rd) : Rd := ((t2R t).num 1).2
def t4R (t : Rd) : Rd := (rd7 (t3R t) 7).2
def t5R (t : Rd) : Rd := (rdList (t4R t)).2
def t6R (t : Rd) : Rd := (rdList (t5R t)).2
def t7R (t : Rd) : Rd := (rdList (t6R t)).2
def t8R (t : Rd) : Rd := (rdList (t7R t)).2
def w7R (t : Rd) (i : Nat) : Nat := (rd7 (t3R t) 7).1.getD i 0
def repR (t : Rd) : Rep := ⟨(((t.num 2147483647).1 : Nat) : Int), ((((t1R t).num 2147483647).1 : Nat) : Int), decide (((t2R t).num 1).1 = 1), w7R t 0, w7R t 1, w7R t 2, w7R t 3, w7R t 4, w7R t 5, w7R t 6, (rdList (t4R t)).1, (rdList (t5R t)).1, (rdList (t6R t)).1, (rdList (t7R t)).1⟩
theorem t8R_ok {t : Rd} (h : t.Ok) : (t8R t).Ok ∧ (t8R t).xs = t.xs := by
  have h1 : (t1R t).Ok := h.num _
  have x1 : (t1R t).xs = t.xs := t.num_xs _
  have h2 : (t2R t).Ok := h1.num _
  have x2 : (t2R t).xs = t.xs := ((t1R t).num_xs _).trans x1
  have h3 : (t3R t).Ok := h2.num _
  have x3 : (t3R t).xs = t.xs := ((t2R t).num_xs _).trans x2
  have h4 := rd7_ok h3 7
  have h5 := rdList_ok h4.1
  have h6 := rdList_ok h5.1
  have h7 := rdList_ok h6.1
  have h8 := rdList_ok h7.1
  exact ⟨h8.1, h8.2.trans (h7.2.trans (h6.2.trans (h5.2.trans (h4.2.trans x3))))⟩
def decE38 (t : Rd) : Int := if (t8R t).done = 0 then if rightA (repR t) then 0 else 2 else (t8R t).done
def decR38 (t : Rd) : Rep := if decE38 t = 0 then repR t else Rep.zero
theorem w7R_lt (t : Rd) (i : Nat) : w7R t i < 18446744073709551616 := by
  unfold w7R
  rw [List.getD_eq_getElem?_getD]
  rcases Nat.lt_or_ge i (rd7 (t3R t) 7).1.length with hi | hi
  · rw [List.getElem?_eq_getElem hi]; exact rd7_lt 7 _ (List.getElem_mem hi)
  · rw [List.getElem?_eq_none hi]; simp
theorem repR_ok (t : Rd) : (repR t).Ok := by
  have a := t.num_le 2147483647
  have b := (t1R t).num_le 2147483647
  have c1 := rdList_len (t4R t)
  have c2 := rdList_len (t5R t)
  have c3 := rdList_len (t6R t)
  have c4 := rdList_len (t7R t)
  refine ⟨?_, ?_, w7R_lt t 0, w7R_lt t 1, w7R_lt t 2, w7R_lt t 3, w7R_lt t 4, w7R_lt t 5, w7R_lt t 6, ?_, ?_, ?_, ?_⟩
  · show -9223372036854775808 ≤ (((t.num 2147483647).1 : Nat) : Int) ∧ (((t.num 2147483647).1 : Nat) : Int) ≤ 9223372036854775807; omega
  · show -9223372036854775808 ≤ ((((t1R t).num 2147483647).1 : Nat) : Int) ∧ ((((t1R t).num 2147483647).1 : Nat) : Int) ≤ 9223372036854775807; omega
  · show (rdList (t4R t)).1.length ≤ _; omega
  · show (rdList (t5R t)).1.length ≤ _; omega
  · show (rdList (t6R t)).1.length ≤ _; omega
  · show (rdList (t7R t)).1.length ≤ _; omega
/-! ### What was written stands at a reader's place, all of it or cut off -/
def There (ns : List Nat) (L : Nat) (t : Rd) : Prop := t.e = 0 ∧ t.xs.drop t.at_ = (flatN ns).take L
theorem There.num {m : Nat} {ns : List Nat} {L : Nat} {t : Rd} (h : There (m :: ns) L t) {M : Nat} (hm : m < 18446744073709551616) (hM : m ≤ M) :
    ((formN m).length ≤ L ∧ (t.num M).1 = m ∧ There ns (L - (formN m).length) (t.num M).2) ∨ (L < (formN m).length ∧ (t.num M).1 = 0 ∧ (t.num M).2.e = 50) := by
  obtain ⟨h0, hd⟩ := h
  rw [flatN_cons] at hd
  rcases Nat.lt_or_ge L (formN m).length with hL | hL
  · have := num_cut (M := M) h0 hm hd hL
    exact .inr ⟨hL, by rw [this], by rw [this]⟩
  · have h1 := num_there h0 hm hM hd hL
    refine .inl ⟨hL, by rw [h1], by rw [h1], ?_⟩
    rw [h1]
    exact drop_more hd hL
/-- It is cut off. -/
def Left (ns : List Nat) (t : Rd) : Prop := t.e = 50 ∨ ∃ L, There ns L t ∧ L < (flatN ns).length
theorem Left.num {m : Nat} {ns : List Nat} {t : Rd} (h : Left (m :: ns) t) {M : Nat} (hm : m < 18446744073709551616) (hM : m ≤ M) : Left ns (t.num M).2 ∧ ((t.num M).1 = m ∨ (t.num M).2.e = 50) := by
  rcases h with h | ⟨L, h, hL⟩
  · rw [Rd.num_bad (by omega)]; exact ⟨.inl h, .inr h⟩
  · rcases h.num hm hM with ⟨h1, h2, h3⟩ | ⟨h1, h2, h3⟩
    · rw [flatN_cons, List.length_append] at hL
      exact ⟨.inr ⟨_, h3, by omega⟩, .inl h2⟩
    · exact ⟨.inl h3, .inr h3⟩
theorem Left.end_ {t : Rd} (h : Left [] t) : t.e = 50 := by
  rcases h with h | ⟨L, h, hL⟩
  · exact h
  · simp [flatN] at hL
theorem Left.loop {ns : List Nat} : ∀ (l : List Int) (acc : List Int) {t : Rd}, (∀ z ∈ l, 0 ≤ z ∧ z ≤ 2147483647) → Left (l.map Int.toNat ++ ns) t → Left ns (rdLoop l.length acc t).2
  | [], acc, t, _, h => h
  | z :: r, acc, t, hz, h => by
    rw [List.length_cons, rdLoop]
    have hz0 := hz z (List.mem_cons_self ..)
    split
    · exact Left.loop r _ (fun y hy => hz y (List.mem_cons_of_mem _ hy)) (h.num (by omega) (by omega)).1
    · rename_i h0
      rcases h with h | ⟨L, h, _⟩
      · exact .inl h
      · exact absurd h.1 h0
theorem Left.list {l : List Int} {ns : List Nat} {t : Rd} (hl : (∀ z ∈ l, 0 ≤ z ∧ z ≤ 2147483647) ∧ l.length ≤ 256) (h : Left (rowN l ++ ns) t) : Left ns (rdList t).2 := by
  obtain ⟨h1, h2⟩ := Left.num (m := l.length) (ns := l.map Int.toNat ++ ns) h (M := 256) (by omega) hl.2
  unfold rdList
  rcases h2 with h2 | h2
  · rw [h2]; exact Left.loop l [] hl.1 h1
  · rw [rdLoop_bad (by omega)]; exact .inl h2
/-- It is all there. -/
def Whole (ns : List Nat) (t : Rd) : Prop := t.e = 0 ∧ t.xs.drop t.at_ = flatN ns
theorem Whole.num {m : Nat} {ns : List Nat} {t : Rd} (h : Whole (m :: ns) t) {M : Nat} (hm : m < 18446744073709551616) (hM : m ≤ M) : (t.num M).1 = m ∧ Whole ns (t.num M).2 := by
  have hT : There (m :: ns) (flatN (m :: ns)).length t := ⟨h.1, by rw [List.take_length]; exact h.2⟩
  rcases hT.num hm hM with ⟨h1, h2, h3⟩ | ⟨h1, _, _⟩
  · refine ⟨h2, h3.1, ?_⟩
    rw [h3.2, flatN_cons, List.length_append, Nat.add_sub_cancel_left, List.take_length]
  · rw [flatN_cons, List.length_append] at h1; omega
theorem Whole.loop {ns : List Nat} : ∀ (l : List Int) (acc : List Int) {t : Rd}, (∀ z ∈ l, 0 ≤ z ∧ z ≤ 2147483647) → Whole (l.map Int.toNat ++ ns) t → (rdLoop l.length acc t).1 = acc ++ l ∧ Whole ns (rdLoop l.length acc t).2
  | [], acc, t, _, h => ⟨by simp [rdLoop], h⟩
  | z :: r, acc, t, hz, h => by
    rw [List.length_cons, rdLoop, if_pos h.1]
    have hz0 := hz z (List.mem_cons_self ..)
    obtain ⟨h1, h2⟩ := Whole.num (m := z.toNat) (ns := r.map Int.toNat ++ ns) h (M := 2147483647) (by omega) (by omega)
    obtain ⟨h3, h4⟩ := Whole.loop r (acc ++ [(((t.num 2147483647).1 : Nat) : Int)]) (fun y hy => hz y (List.mem_cons_of_mem _ hy)) h2
    refine ⟨?_, h4⟩
    rw [h3, h1, show ((z.toNat : Nat) : Int) = z by omega]
    simp
theorem Whole.list {l : List Int} {ns : List Nat} {t : Rd} (hl : (∀ z ∈ l, 0 ≤ z ∧ z ≤ 2147483647) ∧ l.length ≤ 256) (h : Whole (rowN l ++ ns) t) : (rdList t).1 = l ∧ Whole ns (rdList t).2 := by
  obtain ⟨h1, h2⟩ := Whole.num (m := l.length) (ns := l.map Int.toNat ++ ns) h (M := 256) (by omega) hl.2
  unfold rdList
  rw [h1]
  have := Whole.loop l [] hl.1 h2
  rwa [List.nil_append] at this
theorem Whole.end_ {t : Rd} (hok : t.Ok) (h : Whole [] t) : t.done = 0 := by
  have h2 : t.xs.drop t.at_ = [] := h.2
  have h3 := congrArg List.length h2
  rw [List.length_drop] at h3
  unfold Rd.done
  rw [if_neg (by intro hh; simp at h3; omega)]
  exact h.1
theorem flag_back (q : Bool) : decide ((if q then (1 : Nat) else 0) = 1) = q := by cases q <;> rfl
theorem rd7_front (t : Rd) : ∀ i, rd7 t (i + 1) = ((t.num 18446744073709551615).1 :: (rd7 (t.num 18446744073709551615).2 i).1, (rd7 (t.num 18446744073709551615).2 i).2)
  | 0 => rfl
  | i + 1 => by
    rw [rd7, rd7_front t i, rd7]; rfl
theorem Whole.seven {ns : List Nat} : ∀ (l : List Nat) {t : Rd}, (∀ x ∈ l, x < 18446744073709551616) → Whole (l ++ ns) t → (rd7 t l.length).1 = l ∧ Whole ns (rd7 t l.length).2
  | [], t, _, h => ⟨rfl, h⟩
  | x :: r, t, hx, h => by
    have hxx := hx x (List.mem_cons_self ..)
    obtain ⟨h1, h2⟩ := Whole.num (m := x) (ns := r ++ ns) h (M := 18446744073709551615) hxx (by omega)
    obtain ⟨h3, h4⟩ := Whole.seven r (fun y hy => hx y (List.mem_cons_of_mem _ hy)) h2
    rw [List.length_cons, rd7_front]
    exact ⟨by rw [h1, h3], h4⟩
theorem Left.seven {ns : List Nat} : ∀ (l : List Nat) {t : Rd}, (∀ x ∈ l, x < 18446744073709551616) → Left (l ++ ns) t → Left ns (rd7 t l.length).2
  | [], t, _, h => h
  | x :: r, t, hx, h => by
    have hxx := hx x (List.mem_cons_self ..)
    have h2 := (Left.num (m := x) (ns := r ++ ns) h (M := 18446744073709551615) hxx (by omega)).1
    rw [List.length_cons, rd7_front]
    exact Left.seven r (fun y hy => hx y (List.mem_cons_of_mem _ hy)) h2
def tailN (r : Rep) : List Nat := rowN r.out ++ (rowN r.left ++ (rowN r.started ++ (rowN r.done ++ [])))
def wideR (r : Rep) : List Nat := [r.present, r.active, r.minted, r.paid, r.kept, r.burned, r.fees]
theorem numsR_eq (r : Rep) : numsR r = r.epoch.toNat :: r.mode.toNat :: (if r.quorum then 1 else 0) :: (wideR r ++ tailN r) := by
  unfold numsR tailN headN wideR
  simp
/-- Cut off it isn't all there. -/
theorem cut_end {r : Rep} (h : r.Small) {t : Rd} (hL : Left (numsR r) t) : (t8R t).e = 50 := by
  rw [numsR_eq] at hL
  have h1 := (hL.num (M := 2147483647) (by have := h.ep; omega) (by have := h.ep; omega)).1
  have h2 := (h1.num (M := 2147483647) (by have := h.mo; omega) (by have := h.mo; omega)).1
  have h3 := (h2.num (M := 1) (by split <;> omega) (by split <;> omega)).1
  have h4 := h3.seven (wideR r) h.wide
  have h5 := Left.list h.out h4
  have h6 := Left.list h.left h5
  have h7 := Left.list h.started h6
  have h8 := Left.list h.done h7
  exact h8.end_
/-- What is written is read as it was. -/
theorem whole_back {r : Rep} (h : r.Small) {t : Rd} (hok : t.Ok) (hW : Whole (numsR r) t) : repR t = r ∧ (t8R t).done = 0 := by
  have hk := (t8R_ok hok).1
  rw [numsR_eq] at hW
  obtain ⟨e1, h1⟩ := hW.num (M := 2147483647) (by have := h.ep; omega) (by have := h.ep; omega)
  obtain ⟨e2, h2⟩ := h1.num (M := 2147483647) (by have := h.mo; omega) (by have := h.mo; omega)
  obtain ⟨e3, h3⟩ := h2.num (M := 1) (by split <;> omega) (by split <;> omega)
  obtain ⟨e4, h4⟩ := h3.seven (wideR r) h.wide
  obtain ⟨e5, h5⟩ := Whole.list h.out h4
  obtain ⟨e6, h6⟩ := Whole.list h.left h5
  obtain ⟨e7, h7⟩ := Whole.list h.started h6
  obtain ⟨e8, h8⟩ := Whole.list h.done h7
  refine ⟨?_, h8.end_ hk⟩
  have e4' : (rd7 (t3R t) 7).1 = wideR r := e4
  have e1' : (t.num 2147483647).1 = r.epoch.toNat := e1
  have e2' : ((t1R t).num 2147483647).1 = r.mode.toNat := e2
  have e3' : ((t2R t).num 1).1 = if r.quorum then 1 else 0 := e3
  have e5' : (rdList (t4R t)).1 = r.out := e5
  have e6' : (rdList (t5R t)).1 = r.left := e6
  have e7' : (rdList (t6R t)).1 = r.started := e7
  have e8' : (rdList (t7R t)).1 = r.done := e8
  unfold repR w7R
  rw [e1', e2', e3', e4', e5', e6', e7', e8', flag_back, show ((r.epoch.toNat : Nat) : Int) = r.epoch by have := h.ep; omega, show ((r.mode.toNat : Nat) : Int) = r.mode by have := h.mo; omega]
  rfl
theorem dec_there {r : Rep} (h : rightA r = true) : decE38 ⟨formR r, 0, 0⟩ = 0 ∧ decR38 ⟨formR r, 0, 0⟩ = r := by
  have hs := right_small7 h
  have hok : Rd.Ok ⟨formR r, 0, 0⟩ := ⟨formR_ok r, by simp, by show (formR r).length ≤ _; have := formR_len hs; omega, by simp, by simp⟩
  obtain ⟨h1, h2⟩ := whole_back hs hok ⟨rfl, rfl⟩
  have he : decE38 ⟨formR r, 0, 0⟩ = 0 := by unfold decE38; rw [if_pos h2, h1, h]; rfl
  refine ⟨he, ?_⟩
  unfold decR38
  rw [if_pos he, h1]
theorem dec_cut {r : Rep} (h : rightA r = true) {k : Nat} (hk : k < (formR r).length) : decE38 ⟨(formR r).take k, 0, 0⟩ = 50 := by
  have hs := right_small7 h
  have h1 := cut_end hs (t := ⟨(formR r).take k, 0, 0⟩) (.inr ⟨k, ⟨rfl, rfl⟩, hk⟩)
  have h2 : (t8R ⟨(formR r).take k, 0, 0⟩).done = 50 := by unfold Rd.done; rw [if_neg (by omega)]; exact h1
  unfold decE38
  rw [if_neg (by omega)]; exact h2
/-! ### What is read has just the bytes that are written for it -/
theorem num_back38 {s : Rd} {M : Nat} (hok : bytesOk s.xs) (h : (s.num M).2.e = 0) : s.e = 0 ∧ ∃ j, (s.num M).2 = ⟨s.xs, s.at_ + j, 0⟩ ∧ formN (s.num M).1 = (s.xs.drop s.at_).take j ∧ s.at_ + j ≤ s.xs.length := by
  by_cases h0 : s.e = 0
  · refine ⟨h0, ?_⟩
    by_cases h3 : s.scan.2.2 = 0
    · by_cases h4 : M < s.scan.1
      · rw [Rd.num_more h0 h3 h4] at h; simp at h
      · rw [Rd.num_good h0 h3 (by omega)]
        obtain ⟨m, j, h5, h6, h7, h8, h9, _⟩ := scanL_back (s.xs.drop s.at_) 0 0 s.scan.1 s.scan.2.1 (fun x hx => hok.mem x (List.mem_of_mem_drop hx)) (by
          show s.scan = _
          rw [← h3])
        rw [Nat.zero_add] at h5
        rw [Nat.zero_add, Nat.pow_zero, Nat.mul_one] at h9
        refine ⟨j, by simp only []; rw [h5], by simp only []; rw [h9]; exact h8, ?_⟩
        rw [List.length_drop] at h7
        omega
    · rw [Rd.num_fail h0 h3] at h; exact absurd h h3
  · rw [Rd.num_bad h0] at h; exact absurd h h0
/-- So far these numbers were read, off these bytes. -/
def Went (xs : List Nat) (ns : List Nat) (t : Rd) : Prop := t.xs = xs ∧ (t.e = 0 → t.at_ ≤ xs.length ∧ flatN ns = xs.take t.at_)
theorem Went.num {xs ns : List Nat} {t : Rd} (hok : bytesOk xs) (h : Went xs ns t) (M : Nat) : Went xs (ns ++ [(t.num M).1]) (t.num M).2 := by
  refine ⟨(t.num_xs M).trans h.1, fun he => ?_⟩
  obtain ⟨h0, j, h1, h2, h3⟩ := num_back38 (by rw [h.1]; exact hok) he
  obtain ⟨h4, h5⟩ := h.2 h0
  rw [h.1] at h2 h3
  rw [h1]
  refine ⟨h3, ?_⟩
  rw [flatN_append, h5]
  show _ ++ (formN _ ++ []) = _
  rw [List.append_nil, h2, List.take_add]
theorem Went.seven {xs : List Nat} (hok : bytesOk xs) {ns : List Nat} {t : Rd} (h : Went xs ns t) : ∀ i, Went xs (ns ++ (rd7 t i).1) (rd7 t i).2
  | 0 => by rw [rd7, List.append_nil]; exact h
  | i + 1 => by
    have := (Went.seven hok h i).num hok 18446744073709551615
    rw [rd7, ← List.append_assoc]; exact this
theorem Went.loop {xs : List Nat} (hok : bytesOk xs) : ∀ (n : Nat) {ns : List Nat} (acc : List Int) {t : Rd}, Went xs (ns ++ acc.map Int.toNat) t → Went xs (ns ++ (rdLoop n acc t).1.map Int.toNat) (rdLoop n acc t).2 ∧ ((rdLoop n acc t).2.e = 0 → (rdLoop n acc t).1.length = acc.length + n)
  | 0, ns, acc, t, h => ⟨h, fun _ => rfl⟩
  | n + 1, ns, acc, t, h => by
    rw [rdLoop]
    split
    · have h1 := h.num hok 2147483647
      have e : ns ++ acc.map Int.toNat ++ [(t.num 2147483647).1] = ns ++ (acc ++ [(((t.num 2147483647).1 : Nat) : Int)]).map Int.toNat := by simp
      rw [e] at h1
      obtain ⟨h2, h3⟩ := Went.loop hok n (acc ++ [(((t.num 2147483647).1 : Nat) : Int)]) h1
      refine ⟨h2, fun he => ?_⟩
      rw [h3 he, List.length_append, List.length_singleton]; omega
    · rename_i h0
      exact ⟨h, fun he => absurd he h0⟩
theorem Went.list {xs : List Nat} (hok : bytesOk xs) {ns : List Nat} {t : Rd} (h : Went xs ns t) : Went xs (ns ++ rowN (rdList t).1) (rdList t).2 := by
  have h1 := h.num hok 256
  obtain ⟨h2, h3⟩ := Went.loop hok (t.num 256).1 (ns := ns ++ [(t.num 256).1]) [] (by simpa using h1)
  refine ⟨h2.1, fun he => ?_⟩
  obtain ⟨h4, h5⟩ := h2.2 he
  refine ⟨h4, ?_⟩
  have hl : (rdList t).1.length = (t.num 256).1 := by
    have := h3 he
    rw [List.length_nil, Nat.zero_add] at this
    exact this
  unfold rowN
  rw [hl]
  rw [List.append_assoc] at h5
  exact h5
theorem le_one {n : Nat} (h : n ≤ 1) : (if decide (n = 1) then (1 : Nat) else 0) = n := by
  match n, h with
  | 0, _ => rfl
  | 1, _ => rfl
theorem dec_back {xs : List Nat} (hok : bytesOk xs) (h : decE38 ⟨xs, 0, 0⟩ = 0) : rightA (decR38 ⟨xs, 0, 0⟩) = true ∧ formR (decR38 ⟨xs, 0, 0⟩) = xs := by
  have hd : decR38 ⟨xs, 0, 0⟩ = repR ⟨xs, 0, 0⟩ := by unfold decR38; rw [if_pos h]
  rw [hd]
  generalize ht : (⟨xs, 0, 0⟩ : Rd) = t at *
  unfold decE38 at h
  split at h
  · rename_i h1
    have hr : rightA (repR t) = true := by
      cases hr : rightA (repR t)
      · rw [hr] at h; simp at h
      · rfl
    refine ⟨hr, ?_⟩
    have h0 : Went xs [] t := by rw [← ht]; exact ⟨rfl, fun _ => ⟨Nat.zero_le _, by simp [flatN]⟩⟩
    have a1 := h0.num hok 2147483647
    have a2 := a1.num hok 2147483647
    have a3 := a2.num hok 1
    have a4 := a3.seven hok 7
    have a5 := a4.list hok
    have a6 := a5.list hok
    have a7 := a6.list hok
    have a8 := a7.list hok
    have h8e : (t8R t).e = 0 := by
      unfold Rd.done at h1
      split at h1
      · omega
      · exact h1
    obtain ⟨b1, b2⟩ := a8.2 h8e
    have b2 : flatN _ = xs.take (t8R t).at_ := b2
    have hx : (t8R t).xs = xs := a8.1
    have hfull : ¬ (t8R t).at_ < (t8R t).xs.length := fun hh => by
      unfold Rd.done at h1
      rw [if_pos ⟨h8e, hh⟩] at h1; omega
    rw [List.take_of_length_le (by rw [hx] at hfull; omega)] at b2
    refine Eq.trans ?_ b2
    unfold formR
    congr 1
    have hq := le_one ((t2R t).num_le 1)
    have h7 : (rd7 (t3R t) 7).1 = [w7R t 0, w7R t 1, w7R t 2, w7R t 3, w7R t 4, w7R t 5, w7R t 6] := by
      have hl := rd7_len (t3R t) 7
      unfold w7R
      generalize (rd7 (t3R t) 7).1 = l at *
      match l, hl with
      | [x0, x1, x2, x3, x4, x5, x6], _ => rfl
    show numsR (repR t) = [] ++ [(t.num 2147483647).1] ++ [((t1R t).num 2147483647).1] ++ [((t2R t).num 1).1] ++ (rd7 (t3R t) 7).1 ++ rowN (rdList (t4R t)).1 ++ rowN (rdList (t5R t)).1 ++ rowN (rdList (t6R t)).1 ++ rowN (rdList (t7R t)).1
    rw [h7]
    unfold numsR headN repR
    simp only [hq, Int.toNat_natCast, List.nil_append, List.cons_append, List.append_assoc]
  · rename_i h1
    exact absurd h h1
end Go.Proofs.Ytnakkjgnjffkpaa
