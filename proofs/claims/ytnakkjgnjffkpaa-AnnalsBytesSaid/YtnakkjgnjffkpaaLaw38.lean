/-
  Layer 38: few, awake.
-/
import Derived.Test.YtnakkjgnjffkpaaAnnE
import Derived.Test.YtnakkjgnjffkpaaCalmV
namespace Go.Proofs.Ytnakkjgnjffkpaa
open Go.RowKit
set_option linter.unusedVariables false
set_option linter.unusedSimpArgs false

def fewW (r : Rep) : Bool := decide (wrap64 (wrap64 (wrap64 ((r.out.length : Int) + r.left.length) + r.started.length) + r.done.length) ≤ 600)
theorem few38_any (r : Rep) (a : RepA) (w : World) :
    Calls Try.prog 14 #[.agg (repC (r, a))] w fun e w' => e = .returned (.bool (fewW r)) ∧ Below w.heap.size w w' := by
  have r0 : row (w.alloc (.cells (repC (r, a)) 36)) w.heap.size = some (repC (r, a)) := row_at _ _ _ _ rfl
  have hB0 : Below w.heap.size w (w.alloc (.cells (repC (r, a)) 36)) := (by (repeat (first | exact Below.refl _ _ | assumption | (refine Below.allocT ?_ _) | refine Below.drew ?_ | refine below_drewN ?_ _ | (refine Below.then ?_ (by assumption)) | (refine Below.setRow ?_ ?_ _; rotate_left; (focus (first | exact Nat.lt_succ_self _ | ((repeat rw [World.size_alloc]); omega) | (simp; done) | (simp; omega) | omega))) | (refine Below.setCell ?_ ?_ _; rotate_left; (focus (first | exact Nat.lt_succ_self _ | ((repeat rw [World.size_alloc]); omega) | (simp; done) | (simp; omega) | omega))) | (refine Below.then' ?_ (by assumption) ?_; rotate_left; (focus (first | exact Nat.lt_succ_self _ | ((repeat rw [World.size_alloc]); omega) | (simp; done) | (simp; omega) | omega))) | fail)); (first | done | fail))
  have hz := repC_one (r, a)
  go_enter Try.func14, Try.ntmps14
  go_upto_region 1 with fail
  change Code.wp _ _ _ _ (w.alloc (.cells (repC (r, a)) 36))
  generalize w.alloc (.cells (repC (r, a)) 36) = w0 at *
  have c0 := fun i => row_cell r0 i
  go_wp2_with fail
  go_ret
  exact ⟨rfl, hB0⟩
theorem an_new {W : World} {E : Nat → Prop} {g most : Nat} (hr : row W g = some (anC Sm.zero most (.slice none 0 0))) (hp : 0 < most) (ht : most ≤ 64) : AnAt W E g most Sm.zero (.slice none 0 0) [] :=
  ⟨hr, OwnC.nil _ _, fun _ h => (List.not_mem_nil h).elim, fun _ h => (List.not_mem_nil h).elim, fun _ h => (List.not_mem_nil h).elim, fun _ h => (List.not_mem_nil h).elim, (fun h => by cases h), by simp, hp, ht⟩
/-! ### What annals tell, of the reports alone -/
def SeqR (L : List Rep) : Prop := ∀ i x y, L[i]? = some x → L[i + 1]? = some y → y.epoch = x.epoch + 1
theorem SeqR.nil : SeqR [] := fun i x y h => by simp at h
theorem SeqR.at_ {L : List Rep} (h : SeqR L) {x0 : Rep} (h0 : L[0]? = some x0) : ∀ (i : Nat) (x : Rep), L[i]? = some x → x.epoch = x0.epoch + (i : Int)
  | 0, x, hx => by rw [h0] at hx; cases hx; simp
  | i + 1, x, hx => by
    have hl : i + 1 < L.length := (List.getElem?_eq_some_iff.1 hx).1
    obtain ⟨y, hy⟩ : ∃ y, L[i]? = some y := ⟨_, List.getElem?_eq_getElem (by omega)⟩
    have h1 := SeqR.at_ h h0 i y hy
    have h2 := h i y x hy hx
    rw [h2, h1]; omega
theorem SeqR.drop {L : List Rep} (h : SeqR L) (k : Nat) : SeqR (L.drop k) := fun i x y hx hy => by
  rw [List.getElem?_drop] at hx hy
  exact h (k + i) x y hx (by rw [← hy]; congr 1)
theorem SeqR.push {L : List Rep} (h : SeqR L) {r : Rep} (hs : seqB L r = true) : SeqR (L ++ [r]) := fun i x y hx hy => by
  by_cases hi : i + 1 < L.length
  · rw [List.getElem?_append_left (by omega)] at hx hy
    exact h i x y hx hy
  · by_cases hj : i + 1 = L.length
    · rw [List.getElem?_append_left (by omega)] at hx
      rw [List.getElem?_append_right (by omega)] at hy
      have : i + 1 - L.length = 0 := by omega
      rw [this] at hy
      have hy : r = y := by simpa using hy
      subst hy
      have hl : L.getLast? = some x := by rw [List.getLast?_eq_getElem?, ← hj]; simpa using hx
      unfold seqB at hs
      rw [hl] at hs
      have := of_decide_eq_true hs
      omega
    · rw [List.getElem?_eq_none (by rw [List.length_append, List.length_singleton]; omega)] at hy
      cases hy
def fndR (ep : Int) : List Rep → Option Nat
  | [] => none
  | x :: r => if x.epoch = ep then some 0 else (fndR ep r).map (· + 1)
theorem fndR_eq (ep : Int) : ∀ l : List (Rep × RepA), fndN ep l = fndR ep (l.map (·.1))
  | [] => rfl
  | x :: r => by
    show (if x.1.epoch = ep then some 0 else (fndN ep r).map (· + 1)) = (if x.1.epoch = ep then some 0 else (fndR ep (r.map (·.1))).map (· + 1))
    rw [fndR_eq ep r]
theorem fndR_lt (ep : Int) : ∀ (l : List Rep) (j : Nat), fndR ep l = some j → j < l.length ∧ ∃ x, l[j]? = some x ∧ x.epoch = ep
  | [], j, h => by simp [fndR] at h
  | y :: r, j, h => by
    by_cases h0 : y.epoch = ep
    · simp [fndR, h0] at h; subst h; exact ⟨by simp, y, rfl, h0⟩
    · simp only [fndR, h0, if_false, Option.map_eq_some_iff] at h
      obtain ⟨k, hk, rfl⟩ := h
      obtain ⟨a, x, b, c⟩ := fndR_lt ep r k hk
      exact ⟨by simp; omega, x, by simpa using b, c⟩
theorem SeqR.le {L : List Rep} (h : SeqR L) {a b : Int} (hab : a ≤ b) {i k : Nat} (hi : fndR a L = some i) (hk : fndR b L = some k) : i ≤ k := by
  obtain ⟨h1, x, h2, h3⟩ := fndR_lt a L i hi
  obtain ⟨h4, y, h5, h6⟩ := fndR_lt b L k hk
  obtain ⟨x0, h0⟩ : ∃ x0, L[0]? = some x0 := ⟨_, List.getElem?_eq_getElem (by omega)⟩
  have e1 := h.at_ h0 i x h2
  have e2 := h.at_ h0 k y h5
  omega
def spanR (L : List Rep) : Value := match L.head?, L.getLast? with
  | some x, some y => .tuple #[.int .i64 x.epoch, .int .i64 y.epoch, .bool true]
  | _, _ => .tuple #[.int .i64 0, .int .i64 0, .bool false]
theorem spanR_eq (l : List (Rep × RepA)) : spanV l = spanR (l.map (·.1)) := by
  unfold spanV spanR
  rw [List.head?_map, List.getLast?_map]
  cases l.head? <;> cases l.getLast? <;> rfl
def cutR (i k : Nat) (l : List Rep) : List Rep := (l.take (k + 1)).drop i
theorem sums_cut (i k : Nat) (l : List (Rep × RepA)) : sumsOf (cutL i k l) = (cutR i k (l.map (·.1))).map smOf := by
  unfold sumsOf cutL cutR
  rw [← List.map_take, ← List.map_drop, List.map_map]; rfl
def sumR (L : List Rep) (a b : Int) : Sm × Int :=
  if b < a then (Sm.zero, 2) else if a = b then (Sm.zero, 0) else
  match fndR a L, fndR (b - 1) L with
  | some i, some k => (togV ((cutR i k L).map smOf), togE ((cutR i k L).map smOf))
  | _, _ => (Sm.zero, 200)
theorem sumR_eq (l : List (Rep × RepA)) (a b : Int) : sumV38 l a b = sumR (l.map (·.1)) a b := by
  unfold sumV38 sumR
  rw [fndR_eq, fndR_eq]
  cases fndR a (l.map (·.1)) <;> cases fndR (b - 1) (l.map (·.1)) <;> simp [sums_cut]
def AtPostR (w : World) (ep : Int) (L : List Rep) (e : Ending) (w' : World) : Prop := Below w.heap.size w w' ∧ match (fndR ep L).bind (fun k => L[k]?) with
  | some x => ∃ a, e = .returned (.tuple #[.agg (repC (x, a)), .int .i64 0]) ∧ RepAt w' (x, a)
  | none => e = .returned (.tuple #[.agg (repC (Rep.zero, RepA.nil)), .int .i64 200])
theorem atR_eq {w : World} {ep : Int} {l : List (Rep × RepA)} {e : Ending} {w' : World} (h : AtPost38 w ep l e w') : AtPostR w ep (l.map (·.1)) e w' := by
  unfold AtPost38 at h
  unfold AtPostR
  refine ⟨h.1, ?_⟩
  have h2 := h.2
  rw [fndR_eq] at h2
  cases hf : fndR ep (l.map (·.1)) with
  | none => rw [hf] at h2; exact h2
  | some k =>
    rw [hf] at h2
    simp only [Option.bind_some, List.getElem?_map] at h2 ⊢
    cases hl : l[k]? with
    | none => rw [hl] at h2; exact h2
    | some x => rw [hl] at h2; exact h2
/-- Annals whose own blocks lie from B on. -/
structure AnB (E : Nat → Prop) (B : Nat) (W : World) (g most : Nat) (s : Sm) (L : List Rep) (M : Nat) : Prop where
  at_ : ∃ v l, AnAt W E g most s v l ∧ l.map (·.1) = L ∧ B ≤ g ∧ ∀ k, v.ownBlock = some k → B ≤ k
  seq : SeqR L
  few : s.Few M
  mon : ∀ k, s.mon k < 18446744073709551616
  len : L.length ≤ most
theorem mon_top (s : Sm) (k : Nat) : ∃ j, j < 5 ∧ s.mon k = s.mon j := by
  by_cases h : k < 5
  · exact ⟨k, h, rfl⟩
  · obtain ⟨j, rfl⟩ : ∃ j, k = j + 4 := ⟨k - 4, by omega⟩
    exact ⟨4, by omega, rfl⟩
theorem smOf_few' (r : Rep) (h : rightA r = true) : (smOf r).Few 600 := by
  have := right_small' h
  exact ⟨by show 1 ≤ _; omega, by have := oneN_le r.quorum; show oneN r.quorum ≤ _; omega, by have := oneN_le (leakB r.mode); show oneN (leakB r.mode) ≤ _; omega, by show r.out.length ≤ _; omega, by show r.left.length ≤ _; omega, by show r.started.length ≤ _; omega, by show r.done.length ≤ _; omega⟩
theorem Sm.Few.mono {s : Sm} {M N : Nat} (h : s.Few M) (hMN : M ≤ N) : s.Few N := ⟨Nat.le_trans h.ticks hMN, Nat.le_trans h.quorums hMN, Nat.le_trans h.leaks hMN, Nat.le_trans h.out hMN, Nat.le_trans h.left hMN, Nat.le_trans h.started hMN, Nat.le_trans h.done hMN⟩
theorem addE_zero {s : Sm} {L : List Rep} {r : Rep} (h : addE s L r = 0) : rightA r = true ∧ seqB L r = true ∧ fitsS (addS s (smOf r)) := by
  unfold addE at h
  split at h
  · rename_i h1
    split at h
    · rename_i h2
      refine ⟨h1, h2, ?_⟩
      unfold togE at h
      split at h
      · rename_i h3; rw [tot_two] at h3; exact h3
      · cases h
    · cases h
  · cases h
section
variable {E : Nat → Prop} {B : Nat} {W W' : World} {g most : Nat} {s : Sm} {L : List Rep} {M : Nat}
theorem AnB.stay (h : AnB E B W g most s L M) (hb : Below W.heap.size W W') : AnB E B W' g most s L M := by
  obtain ⟨v, l, h1, h2, h3, h4⟩ := h.at_
  exact ⟨⟨v, l, h1.stay hb, h2, h3, h4⟩, h.seq, h.few, h.mon, h.len⟩
theorem AnB.new (hr : row W g = some (anC Sm.zero most (.slice none 0 0))) (hp : 0 < most) (ht : most ≤ 64) (hB : B ≤ g) : AnB E B W g most Sm.zero [] 0 :=
  ⟨⟨_, _, an_new hr hp ht, rfl, hB, fun k h => by cases h⟩, SeqR.nil, ⟨Nat.le_refl _, Nat.le_refl _, Nat.le_refl _, Nat.le_refl _, Nat.le_refl _, Nat.le_refl _, Nat.le_refl _⟩, fun k => by
    obtain ⟨j, _, hj⟩ := mon_top Sm.zero k
    rw [hj]
    have : Sm.zero.mon j = 0 := by match j with | 0 => rfl | 1 => rfl | 2 => rfl | 3 => rfl | j + 4 => rfl
    omega, Nat.zero_le _⟩
/-- What Add leaves, of the plain values. -/
theorem add_plain (hs : SeqR L) (hf : s.Few M) (hm : ∀ k, s.mon k < 18446744073709551616) (hl : L.length ≤ most) (r : Rep) :
    SeqR (addL (addE s L r) most L r) ∧ (addS' (addE s L r) s r).Few (M + 600) ∧ (∀ k, (addS' (addE s L r) s r).mon k < 18446744073709551616) ∧ (addL (addE s L r) most L r).length ≤ most := by
  unfold addL addS'
  by_cases h0 : addE s L r = 0
  · obtain ⟨h1, h2, h3⟩ := addE_zero h0
    simp only [if_pos h0]
    refine ⟨?_, hf.add (smOf_few' r h1), fun k => ?_, ?_⟩
    · unfold keepK; split
      · exact (hs.push h2).drop 1
      · exact hs.push h2
    · obtain ⟨j, hj, e⟩ := mon_top (addS s (smOf r)) k
      have := h3 j hj
      omega
    · unfold keepK; split
      · rw [List.length_drop, List.length_append, List.length_singleton]; omega
      · rename_i h; omega
  · simp only [if_neg h0]
    exact ⟨hs, hf.mono (by omega), hm, hl⟩
theorem AnB.add (h : AnB E B W g most s L M) (hB : B ≤ W.heap.size) (hE : ∀ k, E k → k < W.heap.size) {r : Rep} {a : RepA} (hr : r.Ok) (hR : RepAt W (r, a)) (hap : ∀ k, RepB (r, a) k → k < B) (hM : M ≤ 1000000) :
    Calls Try.prog 15 #[.pointer (some ⟨g, 0, none⟩), .agg (repC (r, a))] W fun e W' => e = .returned (.int .i64 (addE s L r)) ∧ AnB E B W' g most (addS' (addE s L r) s r) (addL (addE s L r) most L r) (M + 600) ∧ Below B W W' := by
  obtain ⟨v, l, h1, rfl, h3, h4⟩ := h.at_
  have ht := h1.top
  have hln := h.len
  obtain ⟨p1, p2, p3, p4⟩ := add_plain h.seq h.few h.mon h.len r
  refine (add38_any E g most s v l r a W h1 hE hr hR (fun k hk e => e.elim (fun e => by have := hap k hk; omega) (fun e => by have := h4 k e; have := hap k hk; omega)) (h.few.mono (by omega)) h.mon (by rw [List.length_map] at hln; omega)).mono ?_
  rintro e W' ⟨rfl, v', l', q1, q2, q3, q4⟩
  exact ⟨rfl, ⟨⟨v', l', q1, q2, h3, fun k hk => (q3 k hk).elim (fun e => e.elim (fun e => e ▸ h3) (h4 k)) (fun e => Nat.le_trans hB e)⟩, p1, p2, p3, p4⟩, q4.toBelow (fun k hk => hk.elim (fun e => e ▸ h3) (h4 k)) hB⟩
theorem AnB.all (h : AnB E B W g most s L M) : Calls Try.prog 24 #[.pointer (some ⟨g, 0, none⟩)] W fun e W' => e = .returned (.agg (smC s)) ∧ Below W.heap.size W W' := by
  obtain ⟨v, l, h1, rfl, h3, h4⟩ := h.at_
  exact all38_any E g most s v l W h1
theorem AnB.span (h : AnB E B W g most s L M) : Calls Try.prog 23 #[.pointer (some ⟨g, 0, none⟩)] W fun e W' => e = .returned (spanR L) ∧ ∃ k, W' = W.drewN k := by
  obtain ⟨v, l, h1, rfl, h3, h4⟩ := h.at_
  refine (span38_any E g most s v l W h1).mono ?_
  rintro e W' ⟨rfl, h⟩
  exact ⟨by rw [spanR_eq], h⟩
theorem AnB.atE (h : AnB E B W g most s L M) (ep : Int) : Calls Try.prog 20 #[.pointer (some ⟨g, 0, none⟩), .int .i64 ep] W (AtPostR W ep L) := by
  obtain ⟨v, l, h1, rfl, h3, h4⟩ := h.at_
  exact (at38_any E g most s v l ep W h1).mono fun e W' h => atR_eq h
theorem AnB.sum (h : AnB E B W g most s L M) (a b : Int) (ha : i64ok a) (hb : i64ok b) : Calls Try.prog 18 #[.pointer (some ⟨g, 0, none⟩), .int .i64 a, .int .i64 b] W fun e W' => e = .returned (.tuple #[.agg (smC (sumR L a b).1), .int .i64 (sumR L a b).2]) ∧ Below W.heap.size W W' := by
  obtain ⟨v, l, h1, rfl, h3, h4⟩ := h.at_
  rw [← sumR_eq]
  exact sum38_any E g most s v l a b ha hb (fun hab i k hi hk => by
    rw [fndR_eq] at hi hk
    have := h.seq.le hab hi hk
    omega) W h1
end
def rep1 : Rep := ⟨4, 1, false, 0, 0, 0, 0, 0, 0, 0, [], [], [], []⟩
def rep2 : Rep := ⟨5, 3, false, 0, 0, 7, 5, 2, 0, 0, [], [], [], []⟩
theorem rep_ok_nil (r : Rep) (h1 : i64ok r.epoch) (h2 : i64ok r.mode) (hp : r.present = 0) (ha : r.active = 0) (hm : r.minted < 100) (hpd : r.paid < 100) (hk : r.kept < 100) (hb : r.burned = 0) (hf : r.fees = 0) (ho : r.out = []) (hl : r.left = []) (hs : r.started = []) (hd : r.done = []) : r.Ok :=
  ⟨h1, h2, by omega, by omega, by omega, by omega, by omega, by omega, by omega, by simp [ho], by simp [hl], by simp [hs], by simp [hd]⟩
theorem rep_at_nil (W : World) (r : Rep) (ho : r.out = []) (hl : r.left = []) (hs : r.started = []) (hd : r.done = []) : RepAt W (r, RepA.nil) := ⟨by rw [ho]; exact SliceOf.nil _ _, by rw [hl]; exact SliceOf.nil _ _, by rw [hs]; exact SliceOf.nil _ _, by rw [hd]; exact SliceOf.nil _ _, fun _ => rfl, fun _ => rfl, fun _ => rfl, fun _ => rfl⟩
theorem rep_no_nil (r : Rep) (k : Nat) : ¬ RepB (r, RepA.nil) k := by
  rintro (⟨_, a, h, _⟩ | ⟨_, a, h, _⟩ | ⟨_, a, h, _⟩ | ⟨_, a, h, _⟩) <;> cases h
theorem sums_quietO {C : World → Prop} {o : Oper} {x : Operand} (ho : o.op = .load 45 x) {a : Act} {w : World} {g : Nat} {s : Sm}
    (h1 : a.eval x = .pointer (some ⟨g, 0, none⟩)) (h2 : row w g = some (smC s)) : Oper.quietAt Try.prog o a C w (.agg (smC s)) := by
  obtain ⟨d, op, ty, pos, af, gd⟩ := o
  have ho' : op = .load 45 x := ho
  subst ho'
  exact sums_quiet h1 h2 (smC_room s)
theorem rsums_quietO {C : World → Prop} {o : Oper} {x : Operand} (ho : o.op = .load 48 x) {a : Act} {w : World} {g : Nat} {s : Sm}
    (h1 : a.eval x = .pointer (some ⟨g, 0, none⟩)) (h2 : row w g = some (smC s)) : Oper.quietAt Try.prog o a C w (.agg (smC s)) := by
  obtain ⟨d, op, ty, pos, af, gd⟩ := o
  have ho' : op = .load 48 x := ho
  subst ho'
  exact rsums_quiet h1 h2 (smC_room s)
def sm12 : Sm := ⟨2, 0, 1, 7, 5, 2, 0, 0, 0, 0, 0, 0⟩
set_option maxRecDepth 100000 in
set_option maxHeartbeats 4000000 in
theorem awake38_any (w : World) : Calls Try.prog 12 #[] w fun e w' => e = .returned (.bool true) ∧ Below w.heap.size w w' := by
  go_enter Try.func12, Try.ntmps12
  go_wp2_with fail
  refine (new38_any 3 w).mono ?_
  intro e w1 h1
  unfold NewPost38 at h1
  rw [if_pos (by omega)] at h1
  obtain ⟨rfl, hb1, r1⟩ := h1
  have A1 := Lib.hid (AnB.new (E := fun _ => False) (show row w1 w.heap.size = some (anC Sm.zero 3 (.slice none 0 0)) from r1) (by decide) (by decide) (Nat.le_refl w.heap.size))
  have B1 := Lib.hid hb1
  clear r1 hb1
  go_wp2_with fail
  refine (A1.out.add B1.out.size (fun k h => h.elim) (r := rep1) (a := RepA.nil) (rep_ok_nil _ (by constructor <;> decide) (by constructor <;> decide) rfl rfl (by decide) (by decide) (by decide) rfl rfl rfl rfl rfl rfl) (rep_at_nil _ _ rfl rfl rfl rfl) (fun k hk => (rep_no_nil _ k hk).elim) (by decide)).mono ?_
  rintro e w2 ⟨rfl, hA2, hb2⟩
  have e2 : addE Sm.zero [] rep1 = 0 := by decide +kernel
  rw [e2] at hA2 ⊢
  have A2 := Lib.hid hA2
  have B2 : Hid (Below w.heap.size w w2) := Lib.hid (B1.out.trans hb2)
  clear hA2 hb2 e2
  go_wp2_with fail
  refine (A2.out.add B2.out.size (fun k h => h.elim) (r := rep2) (a := RepA.nil) (rep_ok_nil _ (by constructor <;> decide) (by constructor <;> decide) rfl rfl (by decide) (by decide) (by decide) rfl rfl rfl rfl rfl rfl) (rep_at_nil _ _ rfl rfl rfl rfl) (fun k hk => (rep_no_nil _ k hk).elim) (by decide)).mono ?_
  rintro e w3 ⟨rfl, hA3, hb3⟩
  have e3 : addE (addS' 0 Sm.zero rep1) (addL 0 3 [] rep1) rep2 = 0 := by decide +kernel
  rw [e3] at hA3 ⊢
  have e4 : addL 0 3 (addL 0 3 [] rep1) rep2 = [rep1, rep2] := by rfl
  have e5 : addS' 0 (addS' 0 Sm.zero rep1) rep2 = sm12 := by rfl
  rw [e4, e5] at hA3
  have A3 := Lib.hid hA3
  have B3 : Hid (Below w.heap.size w w3) := Lib.hid (B2.out.trans hb3)
  clear hA3 hb3 e3 e4 e5
  go_wp2_with fail
  refine A3.out.span.mono ?_
  rintro e w4 ⟨rfl, n4, rfl⟩
  have A4 := Lib.hid (A3.out.stay (show Below w3.heap.size w3 (w3.drewN n4) from below_drewN (Below.refl _ _) _))
  have B4 : Hid (Below w.heap.size w (w3.drewN n4)) := Lib.hid (below_drewN B3.out _)
  generalize w3.drewN n4 = w4 at *
  have e4 : spanR [rep1, rep2] = .tuple #[.int .i64 4, .int .i64 5, .bool true] := rfl
  rw [e4]
  clear e4
  go_wp2_with fail
  refine (A4.out.atE 3).mono ?_
  rintro e w5 ⟨hb5, h5⟩
  have e5 : (fndR 3 [rep1, rep2]).bind (fun k => [rep1, rep2][k]?) = none := by rfl
  rw [e5] at h5
  have h5 : e = .returned (.tuple #[.agg (repC (Rep.zero, RepA.nil)), .int .i64 200]) := h5
  subst h5
  have A5 := Lib.hid (A4.out.stay hb5)
  have B5 : Hid (Below w.heap.size w w5) := Lib.hid (Below.then B4.out hb5)
  clear e5 hb5
  go_upto_region 6 with fail
  refine of_world (fun W => Below w5.heap.size w5 W) (by (repeat (first | exact Below.refl _ _ | assumption | (refine Below.allocT ?_ _) | refine Below.drew ?_ | refine below_drewN ?_ _ | (refine Below.then ?_ (by assumption)) | (refine Below.setRow ?_ ?_ _; rotate_left; (focus (first | exact Nat.lt_succ_self _ | ((repeat rw [World.size_alloc]); omega) | (simp; done) | (simp; omega) | omega))) | (refine Below.setCell ?_ ?_ _; rotate_left; (focus (first | exact Nat.lt_succ_self _ | ((repeat rw [World.size_alloc]); omega) | (simp; done) | (simp; omega) | omega))) | (refine Below.then' ?_ (by assumption) ?_; rotate_left; (focus (first | exact Nat.lt_succ_self _ | ((repeat rw [World.size_alloc]); omega) | (simp; done) | (simp; omega) | omega))) | fail)); (first | done | fail)) ?_
  intro w6 hb6
  have A6 := Lib.hid (A5.out.stay hb6)
  have B6 : Hid (Below w.heap.size w w6) := Lib.hid (Below.then B5.out hb6)
  clear hb6
  go_wp2_with fail
  refine (A6.out.sum 4 6 (by constructor <;> decide) (by constructor <;> decide)).mono ?_
  rintro e w7 ⟨rfl, hb7⟩
  have e7 : sumR [rep1, rep2] 4 6 = (sm12, 0) := by decide +kernel
  rw [e7]
  have A7 := Lib.hid (A6.out.stay hb7)
  have B7 : Hid (Below w.heap.size w w7) := Lib.hid (Below.then B6.out hb7)
  clear hb7 e7
  go_upto_region 7 with fail
  refine of_world (fun W => Below w7.heap.size w7 W ∧ row W w7.heap.size = some (smC sm12)) ⟨(by (repeat (first | exact Below.refl _ _ | assumption | (refine Below.allocT ?_ _) | refine Below.drew ?_ | refine below_drewN ?_ _ | (refine Below.then ?_ (by assumption)) | (refine Below.setRow ?_ ?_ _; rotate_left; (focus (first | exact Nat.lt_succ_self _ | ((repeat rw [World.size_alloc]); omega) | (simp; done) | (simp; omega) | omega))) | (refine Below.setCell ?_ ?_ _; rotate_left; (focus (first | exact Nat.lt_succ_self _ | ((repeat rw [World.size_alloc]); omega) | (simp; done) | (simp; omega) | omega))) | (refine Below.then' ?_ (by assumption) ?_; rotate_left; (focus (first | exact Nat.lt_succ_self _ | ((repeat rw [World.size_alloc]); omega) | (simp; done) | (simp; omega) | omega))) | fail)); (first | done | fail)), by first | exact row_at _ _ _ _ rfl | (rw [row_setRow_if, if_pos rfl, row_at _ _ _ _ rfl]; rfl)⟩ ?_
  rintro w8 ⟨hb8, r8⟩
  have A8 := Lib.hid (A7.out.stay hb8)
  have B8 : Hid (Below w.heap.size w w8) := Lib.hid (Below.then B7.out hb8)
  clear hb8
  have HM : Hid (∀ w', Below w8.heap.size w8 w' → row w' w7.heap.size = some (smC sm12) ∧ Hid (AnB (fun _ => False) w.heap.size w' w.heap.size 3 sm12 [rep1, rep2] (0 + 600 + 600))) := Lib.hid fun w' h => ⟨(row_below h (row_lt r8)).trans r8, Lib.hid (A8.out.stay h)⟩
  have HL : Hid (∀ W, Below w8.heap.size w8 W → Calls Try.prog 24 #[.pointer (some ⟨w.heap.size, 0, none⟩)] W fun e W' => e = .returned (.agg (smC sm12)) ∧ Below W.heap.size W W') := Lib.hid fun W h => (A8.out.stay h).all
  have e1 : sm12.minted = 7 := rfl
  have e2 : sm12.leaks = 1 := rfl
  clear r8
  generalize w7.heap.size = g7 at *
  (refine wp_region_calm (by kernel_rfl) (by kernel_rfl) ?_; (repeat (first | go_big_quiet_skip | (go_big_quiet_want; apply calm_val; (focus (intro w' hb'; obtain ⟨c1, c2⟩ := HM.out w' hb'; have c3 : w'.cell? ⟨g7, 3, none⟩ = some (.int .u64 7) := row_cell c1 3; have c4 : w'.cell? ⟨g7, 2, none⟩ = some (.int .i64 1) := row_cell c1 2; first | exact sums_quietO rfl rfl c1 | (unfold Oper.quietAt; go_simp; first | rfl | (go_at_call 24; exact calm_call hb' (HL.out _ hb'))))); (try simp only [Act.put, List.setIfInBounds_toArray, List.set_cons_zero, List.set_cons_succ]); go_big_quiet_on))); refine wpQuiet_nil ?_; intro w' hb')
  go_wp2_with fail
  go_ret
  exact ⟨rfl, Below.then B8.out hb'⟩
end Go.Proofs.Ytnakkjgnjffkpaa
