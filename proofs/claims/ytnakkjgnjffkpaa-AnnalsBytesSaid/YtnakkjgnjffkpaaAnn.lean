/-
  Annals: what they hold, how they lie in memory; new ones; where an epoch is found.
-/
import Derived.Test.YtnakkjgnjffkpaaClone
namespace Go.Proofs.Ytnakkjgnjffkpaa
open Go.RowKit
set_option linter.unusedVariables false

/-- The first place of an epoch in a list of reports; -1: none. -/
def fndN (ep : Int) : List (Rep × RepA) → Option Nat
  | [] => none
  | x :: r => if x.1.epoch = ep then some 0 else (fndN ep r).map (· + 1)
def fndI (ep : Int) (l : List (Rep × RepA)) : Int := match fndN ep l with
  | some k => (k : Int)
  | none => -1
theorem fndN_at (ep : Int) : ∀ (l : List (Rep × RepA)) (j : Nat) (x : Rep × RepA), (∀ y ∈ l.take j, y.1.epoch ≠ ep) → l[j]? = some x → x.1.epoch = ep → fndN ep l = some j
  | [], j, x, _, h, _ => by simp at h
  | y :: r, 0, x, _, h, he => by simp at h; subst h; simp [fndN, he]
  | y :: r, j + 1, x, ha, h, he => by
    have h0 : y.1.epoch ≠ ep := ha y (by simp)
    have := fndN_at ep r j x (fun z hz => ha z (by simp [hz])) (by simpa using h) he
    simp [fndN, h0, this]
theorem fndN_none (ep : Int) : ∀ (l : List (Rep × RepA)), (∀ y ∈ l, y.1.epoch ≠ ep) → fndN ep l = none
  | [], _ => rfl
  | y :: r, ha => by
    have h0 : y.1.epoch ≠ ep := ha y (by simp)
    simp [fndN, h0, fndN_none ep r (fun z hz => ha z (by simp [hz]))]
theorem fndN_lt (ep : Int) : ∀ (l : List (Rep × RepA)) (j : Nat), fndN ep l = some j → j < l.length ∧ ∃ x, l[j]? = some x ∧ x.1.epoch = ep
  | [], j, h => by simp [fndN] at h
  | y :: r, j, h => by
    by_cases h0 : y.1.epoch = ep
    · simp [fndN, h0] at h; subst h; exact ⟨by simp, y, rfl, h0⟩
    · simp only [fndN, h0, if_false, Option.map_eq_some_iff] at h
      obtain ⟨k, hk, rfl⟩ := h
      obtain ⟨a, x, b, c⟩ := fndN_lt ep r k hk
      exact ⟨by simp; omega, x, by simpa using b, c⟩
theorem repC_room (x : Rep × RepA) : roomy 0 14 (repC x) = true := rfl
theorem repC_ex (x : Rep × RepA) : (repC x).extract 0 14 = repC x := rfl
attribute [go_sem] repC_one repC_room repC_ex
set_option maxRecDepth 100000 in
set_option maxHeartbeats 2000000 in
theorem find1_any (r : Rep) (a : RepA) (gb : Nat) (ep : Int) (w : World) (hr : row w gb = some #[.int .i64 ep]) :
    Calls Try.prog 120 #[.agg (repC (r, a)), .pointer (some ⟨gb, 0, none⟩)] w fun e w' => e = .returned (.bool (decide (r.epoch = ep))) ∧ Below w.heap.size w w' := by
  have r0 : row (w.alloc (.cells (repC (r, a)) 36)) w.heap.size = some (repC (r, a)) := row_at _ _ _ _ rfl
  have b0 : row (w.alloc (.cells (repC (r, a)) 36)) gb = some #[.int .i64 ep] := (row_past _ _ _ (row_lt hr)).trans hr
  have hB0 : Below w.heap.size w (w.alloc (.cells (repC (r, a)) 36)) := (by (repeat (first | exact Below.refl _ _ | assumption | (refine Below.allocT ?_ _) | refine Below.drew ?_ | refine below_drewN ?_ _ | (refine Below.then ?_ (by assumption)) | (refine Below.setRow ?_ ?_ _; rotate_left; (focus (first | exact Nat.lt_succ_self _ | ((repeat rw [World.size_alloc]); omega) | (simp; done) | (simp; omega) | omega))) | (refine Below.setCell ?_ ?_ _; rotate_left; (focus (first | exact Nat.lt_succ_self _ | ((repeat rw [World.size_alloc]); omega) | (simp; done) | (simp; omega) | omega))) | (refine Below.then' ?_ (by assumption) ?_; rotate_left; (focus (first | exact Nat.lt_succ_self _ | ((repeat rw [World.size_alloc]); omega) | (simp; done) | (simp; omega) | omega))) | fail)); (first | done | fail))
  clear hr
  go_enter Try.func120, Try.ntmps120
  go_upto_region 1 with fail
  change Code.wp _ _ _ _ (w.alloc (.cells (repC (r, a)) 36))
  generalize w.alloc (.cells (repC (r, a)) 36) = w0 at *
  have k0 : w0.cell? ⟨w.heap.size, 0, none⟩ = some (.int .i64 r.epoch) := row_cell r0 0
  have k1 : w0.cell? ⟨gb, 0, none⟩ = some (.int .i64 ep) := row_cell b0 0
  have HB := Lib.hid hB0
  clear r0 b0 hB0
  by_cases he : r.epoch = ep
  · have HV : Hid (decide (r.epoch = ep) = true) := Lib.hid (decide_eq_true he)
    subst he
    go_wp2_with fail
    go_ret
    exact ⟨by simp, HB.out⟩
  · have HV : Hid (decide (r.epoch = ep) = false) := Lib.hid (decide_eq_false he)
    have e1 : (r.epoch == ep) = false := beq_eq_false_iff_ne.2 he
    go_wp2_with fail
    go_ret
    exact ⟨by rw [HV.out]; try rfl, HB.out⟩
set_option maxRecDepth 100000 in
set_option maxHeartbeats 4000000 in
theorem index38_any (A : Option Addr) (n c : Nat) (l : List (Rep × RepA)) (gb : Nat) (ep : Int) (hn : l.length = n) (hm : n ≤ 1000000) (w : World) (hA : SliceOf 14 repC w A l) (hr : row w gb = some #[.int .i64 ep]) :
    Calls Try.prog 119 #[.slice A n c, .func (.func 120) #[] #[.pointer (some ⟨gb, 0, none⟩)]] w fun e w' => e = .returned (.int .i64 (fndI ep l)) ∧ Below w.heap.size w w' := by
  have HA := Lib.hid hA
  have HN := Lib.hid hn
  have HR := Lib.hid hr
  clear hA hr hn
  go_enter Try.func119, Try.ntmps119
  go_wp2_with fail
  go_loopw [8] (fun i wr => ∃ j : Nat, i = .int .i64 j ∧ j ≤ n ∧ Hid ((∀ y ∈ l.take j, y.1.epoch ≠ ep) ∧ Below w.heap.size w wr)) (fun i _ => n - (intOf i).toNat)
  case atStart => exact ⟨0, rfl, by omega, Lib.hid ⟨by simp, Below.refl _ _⟩⟩
  case round =>
    obtain ⟨j, rfl, hj, hI⟩ := hrel
    by_cases hlt : j < n
    · obtain ⟨b, off, rfl, hbb, hcell⟩ := HA.out (by rw [HN.out]; omega)
      obtain ⟨⟨r, a⟩, hxj⟩ : ∃ x, l[j]? = some x := ⟨_, List.getElem?_eq_getElem (by rw [HN.out]; exact hlt)⟩
      have hr := range_below (hcell j _ hxj) hI.out.2 hbb
      have HX := Lib.hid hxj
      have hi : (Try.prog.info? 36).map (·.size) = some (repC (r, a)).toList.length := by rw [rep_info]; rfl
      have HC : Hid (∀ W, Below w.heap.size w W → Calls Try.prog 120 #[.agg (repC (r, a)), .pointer (some ⟨gb, 0, none⟩)] W fun e w' => e = .returned (.bool (decide (r.epoch = ep))) ∧ Below W.heap.size W w') := Lib.hid fun W h => find1_any r a gb ep W ((row_below h (row_lt HR.out)).trans HR.out)
      have z1 : (0 : Int) ≤ (j : Int) := by omega
      have z2 : (j : Int) < (n : Int) := by omega
      clear hcell hxj
      have HB9 := Lib.hid hI.out.2
      by_cases he : r.epoch = ep
      · rw [decide_eq_true he] at HC
        have HV : Hid (fndI ep l = (j : Int)) := Lib.hid (by unfold fndI; rw [fndN_at ep l j (r, a) hI.out.1 HX.out he])
        clear he
        go_wp2_with (first | (refine wpList_load_mid rfl 36 _ (by rfl) b (off + j * 14) (by rfl) (repC (r, a)).toList _ hr rep_under rfl hi ?_) | (go_at_call 120; refine (HC.out _ HB9.out).mono ?_; rintro e w1 ⟨rfl, hb1⟩))
        go_ret
        exact ⟨by rw [HV.out]; rfl, Below.then HB9.out hb1⟩
      · rw [decide_eq_false he] at HC
        have HI2 : Hid (∀ y ∈ l.take (j + 1), y.1.epoch ≠ ep) := Lib.hid fun y hy => by
          obtain ⟨hjl, hjz⟩ := List.getElem?_eq_some_iff.1 HX.out
          rw [List.take_succ_eq_append_getElem hjl, hjz] at hy
          rcases List.mem_append.1 hy with hy | hy
          · exact hI.out.1 y hy
          · rw [List.mem_singleton] at hy; subst hy; exact he
        clear he
        go_wp2_with (first | (refine wpList_load_mid rfl 36 _ (by rfl) b (off + j * 14) (by rfl) (repC (r, a)).toList _ hr rep_under rfl hi ?_) | (go_at_call 120; refine (HC.out _ HB9.out).mono ?_; rintro e w1 ⟨rfl, hb1⟩))
        exact ⟨⟨j + 1, by go_num, by omega, Lib.hid ⟨HI2.out, Below.then HB9.out hb1⟩⟩, by simp [intOf]; omega⟩
    · obtain rfl : j = n := by omega
      have HV : Hid (fndI ep l = -1) := Lib.hid (by
        unfold fndI
        rw [fndN_none ep l (by
          have := hI.out.1
          rwa [List.take_of_length_le (by rw [HN.out]; exact Nat.le_refl _)] at this)])
      go_wp2_with fail
      go_ret
      exact ⟨by rw [HV.out]; rfl, hI.out.2⟩
/-! ### Annals in memory -/
def anC (s : Sm) (most : Nat) (v : Value) : Array Value := #[.int .i64 (s.ticks : Int), .int .i64 (s.quorums : Int), .int .i64 (s.leaks : Int), .int .u64 (s.minted : Int), .int .u64 (s.paid : Int), .int .u64 (s.kept : Int), .int .u64 (s.burned : Int), .int .u64 (s.fees : Int), .int .i64 (s.out : Int), .int .i64 (s.left : Int), .int .i64 (s.started : Int), .int .i64 (s.done : Int), .int .i64 (most : Int), v]
theorem anC_at12 (s : Sm) (m : Nat) (v : Value) : (anC s m v)[12]? = some (.int .i64 (m : Int)) := rfl
theorem anC_at13 (s : Sm) (m : Nat) (v : Value) : (anC s m v)[13]? = some v := rfl
theorem anC_size (s : Sm) (m : Nat) (v : Value) : (anC s m v).size = 14 := rfl
theorem anC_room (s : Sm) (m : Nat) (v : Value) : roomy 0 12 (anC s m v) = true := rfl
theorem anC_ex (s : Sm) (m : Nat) (v : Value) : (anC s m v).extract 0 12 = smC s := rfl
attribute [go_sem] anC_at12 anC_at13 anC_size anC_room anC_ex
/-- The blocks of a report's lists. -/
def RepB (x : Rep × RepA) (k : Nat) : Prop := (x.1.out ≠ [] ∧ ∃ a, x.2.a1 = some a ∧ a.block = k) ∨ (x.1.left ≠ [] ∧ ∃ a, x.2.a2 = some a ∧ a.block = k) ∨ (x.1.started ≠ [] ∧ ∃ a, x.2.a3 = some a ∧ a.block = k) ∨ (x.1.done ≠ [] ∧ ∃ a, x.2.a4 = some a ∧ a.block = k)
structure AnAt (W : World) (E : Nat → Prop) (g : Nat) (most : Nat) (s : Sm) (v : Value) (l : List (Rep × RepA)) : Prop where
  row : row W g = some (anC s most v)
  kept : OwnC 36 14 repC W 0 v l
  reps : ∀ x ∈ l, RepAt W x
  ok : ∀ x ∈ l, x.1.Ok
  small : ∀ x ∈ l, x.1.out.length ≤ 1000000 ∧ x.1.left.length ≤ 1000000 ∧ x.1.started.length ≤ 1000000 ∧ x.1.done.length ≤ 1000000
  apart : ∀ x ∈ l, ∀ k, RepB x k → k ≠ g ∧ v.ownBlock ≠ some k ∧ ¬ E k ∧ k < W.heap.size
  ne : v.ownBlock ≠ some g
  few : l.length ≤ 1000
  pos : 0 < most
  top : most ≤ 64
theorem SliceOf.chg' {α : Type} {C : Nat} {f : α → Array Value} {W W' : World} {A : Option Addr} {l : List α} {S : Nat → Prop} (h : SliceOf C f W A l) (hc : Chg S W W') (hS : l ≠ [] → ∀ a, A = some a → ¬ S a.block) : SliceOf C f W' A l := by
  by_cases hl : l = []
  · subst hl; exact SliceOf.nil _ _
  · exact h.chg hc (hS hl)
theorem RepAt.chg {W W' : World} {x : Rep × RepA} {S : Nat → Prop} (h : RepAt W x) (hc : Chg S W W') (hS : ∀ k, RepB x k → ¬ S k) : RepAt W' x := ⟨h.out.chg' hc (fun hn a ha => hS _ (.inl ⟨hn, a, ha, rfl⟩)), h.left.chg' hc (fun hn a ha => hS _ (.inr (.inl ⟨hn, a, ha, rfl⟩))), h.started.chg' hc (fun hn a ha => hS _ (.inr (.inr (.inl ⟨hn, a, ha, rfl⟩)))), h.done.chg' hc (fun hn a ha => hS _ (.inr (.inr (.inr ⟨hn, a, ha, rfl⟩)))), h.n1, h.n2, h.n3, h.n4⟩
theorem SliceOf.lt_ {α : Type} {C : Nat} {f : α → Array Value} {W : World} {A : Option Addr} {l : List α} (h : SliceOf C f W A l) (hl : l ≠ []) {k : Nat} (hk : ∃ a, A = some a ∧ a.block = k) : k < W.heap.size := by
  obtain ⟨b, o, e, hb, _⟩ := h (List.length_pos_iff.2 hl)
  obtain ⟨a, ha, rfl⟩ := hk
  rw [ha] at e; cases e; exact hb
theorem RepB.lt {W : World} {x : Rep × RepA} {k : Nat} (hk : RepB x k) (h : RepAt W x) : k < W.heap.size := by
  rcases hk with ⟨hn, hk⟩ | ⟨hn, hk⟩ | ⟨hn, hk⟩ | ⟨hn, hk⟩
  · exact h.out.lt_ hn hk
  · exact h.left.lt_ hn hk
  · exact h.started.lt_ hn hk
  · exact h.done.lt_ hn hk
section
variable {W W' : World} {E : Nat → Prop} {g most : Nat} {s : Sm} {v : Value} {l : List (Rep × RepA)}
/-- What turns elsewhere leaves annals as they are. -/
theorem AnAt.chg {S : Nat → Prop} (h : AnAt W E g most s v l) (hc : Chg S W W') (hg : ¬ S g) (hv : ∀ k, v.ownBlock = some k → ¬ S k) (hE : ∀ k, S k → E k) : AnAt W' E g most s v l :=
  ⟨(hc.row (row_lt h.row) hg).trans h.row, h.kept.chg hc hv, fun x hx => (h.reps x hx).chg hc (fun k hk hs => (h.apart x hx k hk).2.2.1 (hE k hs)), h.ok, h.small, fun x hx k hk => ⟨(h.apart x hx k hk).1, (h.apart x hx k hk).2.1, (h.apart x hx k hk).2.2.1, Nat.lt_of_lt_of_le (h.apart x hx k hk).2.2.2 hc.size⟩, h.ne, h.few, h.pos, h.top⟩
theorem AnAt.stay (h : AnAt W E g most s v l) (hb : Below W.heap.size W W') : AnAt W' E g most s v l := h.chg (Chg.of_below (S := fun _ => False) hb (Nat.le_refl _)) (fun h => h) (fun _ _ h => h) (fun _ h => h.elim)
theorem AnAt.form (h : AnAt W E g most s v l) : ∃ A c, v = .slice A l.length c ∧ SliceOf 14 repC W A l ∧ (A = none → c = 0) := by
  obtain ⟨A, c, rfl, hS, _, _⟩ := h.kept.form repC_size
  exact ⟨A, c, rfl, hS, h.kept.cap⟩
end
theorem is38_any (g : Nat) (s : Sm) (most : Nat) (v : Value) (w : World) (hr : row w g = some (anC s most v)) :
    Calls Try.prog 53 #[.pointer (some ⟨g, 0, none⟩)] w fun e w' => e = .returned (.bool (decide (0 < most))) ∧ w = w' := by
  have c1 : w.cell? ⟨g, 12, none⟩ = some (.int .i64 (most : Int)) := row_cell hr 12
  clear hr
  by_cases h : 0 < most
  · have HV : Hid (decide (0 < most) = true) := Lib.hid (decide_eq_true h)
    have h1 : (0 : Int) < (most : Int) := by omega
    clear h
    go_enter Try.func53, Try.ntmps53
    go_wp2_with fail
    go_ret
    exact ⟨by rw [HV.out]; rfl, rfl⟩
  · obtain rfl : most = 0 := by omega
    go_enter Try.func53, Try.ntmps53
    go_wp2_with fail
    go_ret
    exact ⟨rfl, rfl⟩
theorem is38_nil (w : World) : Calls Try.prog 53 #[.pointer none] w fun e w' => e = .returned (.bool false) ∧ w = w' := by
  go_enter Try.func53, Try.ntmps53
  go_wp2_with fail
  go_ret
  exact ⟨rfl, rfl⟩
/-- What annals.New leaves. -/
def NewPost38 (w : World) (most : Int) (e : Ending) (w' : World) : Prop :=
  if 1 ≤ most ∧ most ≤ 64 then e = .returned (.tuple #[.pointer (some ⟨w.heap.size, 0, none⟩), .int .i64 0]) ∧ Below w.heap.size w w' ∧ row w' w.heap.size = some (anC Sm.zero most.toNat (.slice none 0 0))
  else e = .returned (.tuple #[.pointer none, .int .i64 2]) ∧ w = w'
set_option maxRecDepth 100000 in
theorem new38_any (most : Int) (w : World) : Calls Try.prog 13 #[.int .i64 most] w (NewPost38 w most) := by
  have HI := Lib.hid (fun W => within38_any most 1 64 W)
  by_cases h : 1 ≤ most ∧ most ≤ 64
  · obtain ⟨m, rfl⟩ : ∃ m : Nat, most = (m : Int) := ⟨most.toNat, by omega⟩
    have HP : Hid (∀ e w', e = .returned (.tuple #[.pointer (some ⟨w.heap.size, 0, none⟩), .int .i64 0]) → Below w.heap.size w w' → row w' w.heap.size = some (anC Sm.zero m (.slice none 0 0)) → NewPost38 w (m : Int) e w') := Lib.hid fun e w' a b c => by
      unfold NewPost38; rw [if_pos h]; exact ⟨a, b, by rw [show ((m : Int).toNat) = m by omega]; exact c⟩
    rw [show betB (m : Int) 1 64 = true from decide_eq_true h] at HI
    clear h
    go_enter Try.func13, Try.ntmps13
    go_wp2_with (first | (go_at_call 52; refine (HI.out _).mono ?_; rintro e w1 ⟨rfl, rfl⟩) | (refine wpList_build_to (anC Sm.zero m (.slice none 0 0)) rfl 57 _ rfl (by rfl) ?_))
    go_ret2
    exact HP.out _ _ rfl (by (repeat (first | exact Below.refl _ _ | assumption | (refine Below.allocT ?_ _) | refine Below.drew ?_ | refine below_drewN ?_ _ | (refine Below.then ?_ (by assumption)) | (refine Below.setRow ?_ ?_ _; rotate_left; (focus (first | exact Nat.lt_succ_self _ | ((repeat rw [World.size_alloc]); omega) | (simp; done) | (simp; omega) | omega))) | (refine Below.setCell ?_ ?_ _; rotate_left; (focus (first | exact Nat.lt_succ_self _ | ((repeat rw [World.size_alloc]); omega) | (simp; done) | (simp; omega) | omega))) | (refine Below.then' ?_ (by assumption) ?_; rotate_left; (focus (first | exact Nat.lt_succ_self _ | ((repeat rw [World.size_alloc]); omega) | (simp; done) | (simp; omega) | omega))) | fail)); (first | done | fail)) (row_at _ _ _ _ rfl)
  · have HP : Hid (∀ e w', e = .returned (.tuple #[.pointer none, .int .i64 2]) → w = w' → NewPost38 w most e w') := Lib.hid fun e w' a b => by
      unfold NewPost38; rw [if_neg h]; exact ⟨a, b⟩
    rw [show betB most 1 64 = false from decide_eq_false h] at HI
    clear h
    go_enter Try.func13, Try.ntmps13
    go_wp2_with (go_at_call 52; refine (HI.out _).mono ?_; rintro e w1 ⟨rfl, rfl⟩)
    go_ret2
    exact HP.out _ _ rfl rfl
set_option maxRecDepth 100000 in
theorem find38_any (E : Nat → Prop) (g most : Nat) (s : Sm) (v : Value) (l : List (Rep × RepA)) (ep : Int) (w : World) (hA : AnAt w E g most s v l) :
    Calls Try.prog 61 #[.pointer (some ⟨g, 0, none⟩), .int .i64 ep] w fun e w' => e = .returned (.int .i64 (fndI ep l)) ∧ Below w.heap.size w w' := by
  obtain ⟨A, c, rfl, hS, _⟩ := hA.form
  have r0 : row (w.alloc (.cells #[.int .i64 ep] 3)) w.heap.size = some #[.int .i64 ep] := row_at _ _ _ _ rfl
  have q0 : row (w.alloc (.cells #[.int .i64 ep] 3)) g = some (anC s most (.slice A l.length c)) := (row_past _ _ _ (row_lt hA.row)).trans hA.row
  have hB0 : Below w.heap.size w (w.alloc (.cells #[.int .i64 ep] 3)) := (by (repeat (first | exact Below.refl _ _ | assumption | (refine Below.allocT ?_ _) | refine Below.drew ?_ | refine below_drewN ?_ _ | (refine Below.then ?_ (by assumption)) | (refine Below.setRow ?_ ?_ _; rotate_left; (focus (first | exact Nat.lt_succ_self _ | ((repeat rw [World.size_alloc]); omega) | (simp; done) | (simp; omega) | omega))) | (refine Below.setCell ?_ ?_ _; rotate_left; (focus (first | exact Nat.lt_succ_self _ | ((repeat rw [World.size_alloc]); omega) | (simp; done) | (simp; omega) | omega))) | (refine Below.then' ?_ (by assumption) ?_; rotate_left; (focus (first | exact Nat.lt_succ_self _ | ((repeat rw [World.size_alloc]); omega) | (simp; done) | (simp; omega) | omega))) | fail)); (first | done | fail))
  have HF := Lib.hid (index38_any A l.length c l w.heap.size ep rfl (by have := hA.few; omega) (w.alloc (.cells #[.int .i64 ep] 3)) (hS.below hB0 (Nat.le_refl _)) r0)
  clear hA hS
  go_enter Try.func61, Try.ntmps61
  go_upto_region 1 with fail
  change Code.wp _ _ _ _ (w.alloc (.cells #[.int .i64 ep] 3))
  generalize w.alloc (.cells #[.int .i64 ep] 3) = w0 at *
  have k13 : w0.cell? ⟨g, 13, none⟩ = some (.slice A l.length c) := row_cell q0 13
  clear r0 q0
  go_wp2_with (go_at_call 119; refine HF.out.mono ?_; rintro e w1 ⟨rfl, hb1⟩)
  go_ret
  exact ⟨rfl, Below.then hB0 hb1⟩
end Go.Proofs.Ytnakkjgnjffkpaa
