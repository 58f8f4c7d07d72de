/-
  A whole element of a list that a call owns is stored: OwnC.putAll, MO.putAll.
  Motions opened: the first that is over; moot.Open.
  A motion that is opened: moot.Open.
-/
import Derived.Test.YtnakkjgnjffkpaaMoot1
import Derived.Test.YtnakkjgnjffkpaaDed
import Derived.Test.YtnakkjgnjffkpaaBits7
import Derived.OwnWalk
namespace Go.Proofs.Ytnakkjgnjffkpaa
open Go.RowKit
set_option linter.unusedVariables false

theorem setL_size : ∀ (vs : List Value) (o : Nat) (cs : Array Value), (setL cs o vs).size = cs.size
  | [], o, cs => rfl
  | v :: r, o, cs => by
    rw [setL, setL_size r (o + 1), Array.size_setIfInBounds]
theorem setL_toList : ∀ (vs : List Value) (o : Nat) (cs : Array Value), o + vs.length ≤ cs.size → (setL cs o vs).toList = cs.toList.take o ++ vs ++ cs.toList.drop (o + vs.length)
  | [], o, cs, _ => by simp [setL]
  | v :: r, o, cs, h => by
    rw [List.length_cons] at h
    rw [setL, setL_toList r (o + 1) _ (by rw [Array.size_setIfInBounds]; omega), Array.toList_setIfInBounds]
    have hl : o < cs.toList.length := by rw [Array.length_toList]; omega
    rw [List.drop_set, if_pos (by omega), List.take_set, List.take_succ_eq_append_getElem hl, List.set_append_right _ _ (by rw [List.length_take]; omega)]
    rw [List.length_take, Nat.min_eq_left (Nat.le_of_lt hl), Nat.sub_self, List.set_cons_zero, List.length_cons]
    simp [Nat.add_assoc, Nat.add_comm 1]
theorem setL_all (cs new : Array Value) (h : cs.size = new.size) : setL cs 0 new.toList = new := by
  apply Array.toList_inj.1
  rw [setL_toList _ _ _ (by rw [Array.length_toList]; omega)]
  simp [h]
section
variable {α : Type} {T : TypeId} {C : Nat} {f : α → Array Value}
theorem OwnC.sub (hC : ∀ x, (f x).size = C) {W : World} {B : Nat} {v : Value} {xs : List α} : OwnC T C f W B v xs ↔ OwnC T C (fun y : {a : Array Value // a.size = C} => y.1) W B v (xs.map fun x => ⟨f x, hC x⟩) := by
  unfold OwnC
  rw [List.length_map, List.flatMap_map]
theorem OwnC.putL {B g n cap : Nat} {j : Nat} : ∀ (vs : List Value) (o : Nat) (W : World) (xs : List {a : Array Value // a.size = C}) (x : {a : Array Value // a.size = C}), OwnC T C (fun y : {a : Array Value // a.size = C} => y.1) W B (.slice (some ⟨g, 0, none⟩) n cap) xs → xs[j]? = some x → o + vs.length ≤ C →
    OwnC T C (fun y : {a : Array Value // a.size = C} => y.1) (W.setCells g (j * C + o) vs) B (.slice (some ⟨g, 0, none⟩) n cap) (xs.set j ⟨setL x.1 o vs, (setL_size vs o x.1).trans x.2⟩)
  | [], o, W, xs, x, h, hx, ho => by
    have : xs.set j x = xs := by
      obtain ⟨h1, h2⟩ := List.getElem?_eq_some_iff.1 hx
      rw [← h2, List.set_getElem_self]
    rw [show (⟨setL x.1 o [], (setL_size [] o x.1).trans x.2⟩ : {a : Array Value // a.size = C}) = x from rfl, this]
    exact h
  | v :: r, o, W, xs, x, h, hx, ho => by
    rw [List.length_cons] at ho
    have hj := (List.getElem?_eq_some_iff.1 hx).1
    have h1 := OwnC.setAt (fun y => y.2) h (j := j) (i := o) (x := x) (x' := ⟨x.1.setIfInBounds o v, (Array.size_setIfInBounds ..).trans x.2⟩) (u := v) hx (by omega) rfl
    have h2 := OwnC.putL r (o + 1) _ _ ⟨x.1.setIfInBounds o v, (Array.size_setIfInBounds ..).trans x.2⟩ h1 (by rw [List.getElem?_set_self hj]) (by omega)
    rw [List.set_set] at h2
    exact h2
/-- A whole element is stored. -/
theorem OwnC.putAll (hC : ∀ x, (f x).size = C) {W : World} {B g n cap : Nat} {xs : List α} (h : OwnC T C f W B (.slice (some ⟨g, 0, none⟩) n cap) xs) {j : Nat} (hj : j < xs.length) (x' : α) :
    OwnC T C f (W.setCells g (j * C) (f x').toList) B (.slice (some ⟨g, 0, none⟩) n cap) (xs.set j x') := by
  obtain ⟨x, hx⟩ : ∃ x, xs[j]? = some x := ⟨_, List.getElem?_eq_getElem hj⟩
  have h1 := (OwnC.sub hC).1 h
  have h2 := OwnC.putL (j := j) (f x').toList 0 W _ ⟨f x, hC x⟩ h1 (by rw [List.getElem?_map, hx]; rfl) (by rw [Array.length_toList, hC]; omega)
  rw [Nat.add_zero] at h2
  refine (OwnC.sub hC).2 ?_
  rw [List.map_set]
  have e : (⟨setL (f x) 0 (f x').toList, (setL_size (f x').toList 0 (f x)).trans (hC x)⟩ : {a : Array Value // a.size = C}) = ⟨f x', hC x'⟩ := Subtype.ext (setL_all _ _ ((hC x).trans (hC x').symm))
  rw [← e]
  exact h2
end
theorem MO.putAll {W : World} {B g n cap : Nat} {xs : List (Mot × MotA)} (h : MO W B g n cap xs) {j : Nat} (hj : j < xs.length) {x' : Mot × MotA} (hA : MotAt W x' ∧ ∀ k, MotB x' k → k ≠ g) (hok : x'.1.Ok) :
    MO (W.setCells g (j * 33) (motC x').toList) B g n cap (xs.set j x') := by
  have hc : Chg (fun k => k = g) W (W.setCells g (j * 33) (motC x').toList) := chg_setCells' (S := fun k => k = g) rfl _ _ _ (Chg.refl _ W)
  refine ⟨h.own.putAll motC_size hj x', fun y hy => ?_, fun y hy => ?_⟩
  · rcases mem_set hy with hy | rfl
    · exact ⟨(h.at_ y hy).1.chg hc (h.at_ y hy).2, (h.at_ y hy).2⟩
    · exact ⟨hA.1.chg hc hA.2, hA.2⟩
  · rcases mem_set hy with hy | rfl
    · exact h.ok y hy
    · exact hok
theorem MO.thereAt {W : World} {B g n cap : Nat} {xs : List (Mot × MotA)} (h : MO W B g n cap xs) {j : Nat} (hj : j < xs.length) : W.there g (j * 33) 33 := fun i hi => by
  refine ⟨?_, h.own.free _⟩
  obtain ⟨x, hx⟩ : ∃ x, xs[j]? = some x := ⟨_, List.getElem?_eq_getElem hj⟩
  have hv := Array.getElem?_eq_getElem (xs := motC x) (i := i) (by rw [motC_size]; exact hi)
  rw [h.own.cellAt motC_size hx hv]
  rfl
end Go.Proofs.Ytnakkjgnjffkpaa

namespace Go.Proofs.Ytnakkjgnjffkpaa
open Go.RowKit
set_option linter.unusedVariables false

def overM (m : Mot) : Bool := decide (m.state = 3 ∨ m.state = 4)
/-- The place of the first motion that is over; behind the last one, if none is. -/
def placeL : List Mot → Nat
  | [] => 0
  | m :: r => if overM m then 0 else placeL r + 1
theorem placeL_le : ∀ L : List Mot, placeL L ≤ L.length
  | [] => Nat.le_refl _
  | m :: r => by
    rw [placeL]
    have := placeL_le r
    split
    · exact Nat.zero_le _
    · rw [List.length_cons]; omega
theorem placeL_here : ∀ (L : List Mot) (j : Nat) (m : Mot), (∀ x ∈ L.take j, overM x = false) → L[j]? = some m → overM m = true → placeL L = j
  | [], j, m, _, h, _ => by simp at h
  | y :: r, 0, m, _, h, ho => by
    simp at h; subst h
    rw [placeL, if_pos ho]
  | y :: r, j + 1, m, hf, h, ho => by
    have hy : overM y = false := hf y (by simp)
    rw [placeL, hy]
    simp only [Bool.false_eq_true, if_false]
    rw [placeL_here r j m (fun x hx => hf x (by simp [hx])) (by simpa using h) ho]
theorem placeL_none : ∀ (L : List Mot), (∀ x ∈ L, overM x = false) → placeL L = L.length
  | [], _ => rfl
  | y :: r, hf => by
    rw [placeL, hf y (by simp)]
    simp only [Bool.false_eq_true, if_false]
    rw [placeL_none r (fun x hx => hf x (by simp [hx])), List.length_cons]
theorem over_any (m : Mot) (a : MotA) (w : World) : Calls Try.prog 85 #[.agg (motC (m, a))] w fun e w' => e = .returned (.bool (overM m)) ∧ Below w.heap.size w w' := by
  have r0 : row (w.alloc (.cells (motC (m, a)) 103)) w.heap.size = some (motC (m, a)) := (by (repeat (first | assumption | (refine row_at _ _ _ _ ?_; first | rfl | (simp only [World.size_alloc]; done) | (simp only [World.size_alloc]; omega)) | (refine (row_past _ _ _ ?_).trans ?_; (focus (first | exact Nat.lt_succ_self _ | ((repeat rw [World.size_alloc]); omega) | (simp; done) | (simp; omega) | omega))) | rw [row_drewN] | rw [row_drew])); (first | done | fail))
  have hB0 : Below w.heap.size w (w.alloc (.cells (motC (m, a)) 103)) := (by (repeat (first | exact Below.refl _ _ | assumption | (refine Below.allocT ?_ _) | refine Below.drew ?_ | refine below_drewN ?_ _ | (refine Below.then ?_ (by assumption)) | (refine Below.setRow ?_ ?_ _; rotate_left; (focus (first | exact Nat.lt_succ_self _ | ((repeat rw [World.size_alloc]); omega) | (simp; done) | (simp; omega) | omega))) | (refine Below.setCell ?_ ?_ _; rotate_left; (focus (first | exact Nat.lt_succ_self _ | ((repeat rw [World.size_alloc]); omega) | (simp; done) | (simp; omega) | omega))) | (refine Below.then' ?_ (by assumption) ?_; rotate_left; (focus (first | exact Nat.lt_succ_self _ | ((repeat rw [World.size_alloc]); omega) | (simp; done) | (simp; omega) | omega))) | fail)); (first | done | fail))
  have c0 : (w.alloc (.cells (motC (m, a)) 103)).cell? ⟨w.heap.size, 30, none⟩ = some (.int .i64 m.state) := row_cell r0 30
  have HB := Lib.hid hB0
  clear r0 hB0
  by_cases h3 : m.state = 3
  · have HV : Hid (overM m = true) := Lib.hid (decide_eq_true (.inl h3))
    rw [h3] at c0
    go_enter Try.func85, Try.ntmps85
    go_wp2_with fail
    go_ret
    exact ⟨by rw [HV.out]; rfl, HB.out⟩
  by_cases h4 : m.state = 4
  · have HV : Hid (overM m = true) := Lib.hid (decide_eq_true (.inr h4))
    rw [h4] at c0
    go_enter Try.func85, Try.ntmps85
    go_wp2_with fail
    go_ret
    exact ⟨by rw [HV.out]; rfl, HB.out⟩
  have HV : Hid (overM m = false) := Lib.hid (decide_eq_false (fun h => h.elim h3 h4))
  have e3 : (m.state == 3) = false := beq_eq_false_iff_ne.2 h3
  have e4 : (m.state == 4) = false := beq_eq_false_iff_ne.2 h4
  clear h3 h4
  go_enter Try.func85, Try.ntmps85
  go_wp2_with fail
  go_ret
  exact ⟨by rw [HV.out]; rfl, HB.out⟩
def idxI (L : List Mot) : Int := if placeL L < L.length then (placeL L : Int) else -1
set_option maxRecDepth 100000 in
set_option maxHeartbeats 4000000 in
theorem index_any (A : Option Addr) (n c : Nat) (xs : List (Mot × MotA)) (hn : xs.length = n) (hm : n ≤ 90000) (w : World) (hX : SliceOf 33 motC w A xs) : Calls Try.prog 84 #[.slice A n c, .func (.func 85) #[] #[]] w fun e w' => e = .returned (.int .i64 (idxI (xs.map (·.1)))) ∧ Below w.heap.size w w' := by
  have HX := Lib.hid hX
  have HN := Lib.hid hn
  clear hX hn
  go_enter Try.func84, Try.ntmps84
  go_wp2_with fail
  go_loopw [8] (fun i wr => ∃ j : Nat, i = .int .i64 j ∧ j ≤ n ∧ Hid ((∀ x ∈ (xs.map (·.1)).take j, overM x = false) ∧ Below w.heap.size w wr)) (fun i _ => n - (intOf i).toNat)
  case atStart => exact ⟨0, rfl, by omega, Lib.hid ⟨by simp, Below.refl _ _⟩⟩
  case round =>
    obtain ⟨j, rfl, hj, hH⟩ := hrel
    by_cases hlt : j < n
    · obtain ⟨b, off, rfl, hbb, hcell⟩ := HX.out (by rw [HN.out]; omega)
      obtain ⟨⟨m, a⟩, hx⟩ : ∃ x, xs[j]? = some x := ⟨_, List.getElem?_eq_getElem (by rw [HN.out]; exact hlt)⟩
      have hr := range_below (hcell j _ hx) hH.out.2 hbb
      have hi : (Try.prog.info? 103).map (·.size) = some (motC (m, a)).toList.length := by rw [mot_info]; rfl
      have HXj : Hid ((xs.map (·.1))[j]? = some m) := Lib.hid (by rw [List.getElem?_map, hx]; rfl)
      have z1 : (0 : Int) ≤ (j : Int) := by omega
      have z2 : (j : Int) < (n : Int) := by omega
      have HO := Lib.hid (fun W => over_any m a W)
      generalize ho : overM m = o at *
      have HOv := Lib.hid ho
      clear hcell hx ho
      go_wp2_with (refine wpList_load_mid rfl 103 _ (by rfl) b (off + j * 33) (by rfl) (motC (m, a)).toList _ hr mot_under rfl hi ?_)
      refine (HO.out _).mono ?_
      rintro e w2 ⟨rfl, hb2⟩
      have HB2 := Lib.hid (Below.then hH.out.2 hb2)
      clear hb2 hr hi
      cases o
      · have HI : Hid ((∀ x ∈ (xs.map (·.1)).take (j + 1), overM x = false) ∧ Below w.heap.size w w2) := Lib.hid ⟨fun y hy => by
          obtain ⟨hjl, hjz⟩ := List.getElem?_eq_some_iff.1 HXj.out
          rw [List.take_succ_eq_append_getElem hjl, hjz] at hy
          rcases List.mem_append.1 hy with hy | hy
          · exact hH.out.1 y hy
          · rw [List.mem_singleton] at hy; subst hy; exact HOv.out, HB2.out⟩
        go_wp2_with fail
        exact ⟨⟨j + 1, by go_num, by omega, HI⟩, by simp [intOf]; omega⟩
      · have HV : Hid (idxI (xs.map (·.1)) = (j : Int)) := Lib.hid (by
          have h := placeL_here _ j m hH.out.1 HXj.out HOv.out
          unfold idxI
          rw [h, if_pos (by rw [List.length_map, HN.out]; exact hlt)])
        go_wp2_with fail
        go_ret
        exact ⟨by rw [HV.out]; rfl, HB2.out⟩
    · obtain rfl : j = n := by omega
      have HV : Hid (idxI (xs.map (·.1)) = -1) := Lib.hid (by
        have hall := hH.out.1
        rw [List.take_of_length_le (by rw [List.length_map, HN.out]; exact Nat.le_refl _)] at hall
        unfold idxI
        rw [placeL_none _ hall, if_neg (Nat.lt_irrefl _)])
      go_wp2_with fail
      go_ret
      exact ⟨by rw [HV.out]; rfl, hH.out.2⟩
end Go.Proofs.Ytnakkjgnjffkpaa

namespace Go.Proofs.Ytnakkjgnjffkpaa
open Go.RowKit
set_option linter.unusedVariables false

def openE (p : Par) (L : List Mot) (d : Ded) (ep : Int) : Int :=
  if rightB p = false then 70 else if d.kind ≠ 6 ∨ rightD d = false then 80 else if betw ep 0 1073741824 = false then 2 else if 32 ≤ placeL L then 161 else 0
def nob : List Nat := List.replicate 16 0
def openM (p : Par) (d : Ded) (ep : Int) : Mot := ⟨d.account, d.what, d.par, d.dest, d.amount, ep + p.poll, 0, 1, nob, nob⟩
def openL (p : Par) (L : List Mot) (d : Ded) (ep : Int) : List Mot :=
  if openE p L d ep = 0 then (if placeL L = L.length then L ++ [openM p d ep] else L.set (placeL L) (openM p d ep)) else []
def openI (p : Par) (L : List Mot) (d : Ded) (ep : Int) : Int := if openE p L d ep = 0 then (placeL L : Int) else 0
/-- A list of motions, a place and an error's number come back. -/
def RetO (w : World) (L : List Mot) (i er : Int) (e : Ending) (w' : World) : Prop := ∃ A n c xs, e = .returned (.tuple #[.slice A n c, .int .i64 i, .int .i64 er]) ∧ xs.length = n ∧ ML w' A xs ∧ xs.map (·.1) = L ∧ (A = none → c = 0) ∧ Below w.heap.size w w'
theorem RetO.no {w w' : World} {er : Int} (hb : Below w.heap.size w w') : RetO w [] 0 er (.returned (.tuple #[.slice none 0 0, .int .i64 0, .int .i64 er])) w' := ⟨none, 0, 0, [], rfl, rfl, ML.nil _ _, rfl, fun _ => rfl, hb⟩
/-- A motion's cells, whatever its votes' lengths. -/
def motN (ac wh : Int) (p : Par) (ds : Int) (am : Nat) (s en : Int) (A1 : Option Addr) (n1 c1 : Nat) (A2 : Option Addr) (n2 c2 : Nat) : Array Value := ((motC (⟨ac, wh, p, ds, am, en, 0, s, [], []⟩, ⟨none, 0, none, 0⟩)).setIfInBounds 31 (.slice A1 n1 c1)).setIfInBounds 32 (.slice A2 n2 c2)
theorem motN_size (ac wh : Int) (p : Par) (ds : Int) (am : Nat) (s en : Int) (A1 : Option Addr) (n1 c1 : Nat) (A2 : Option Addr) (n2 c2 : Nat) : (motN ac wh p ds am s en A1 n1 c1 A2 n2 c2).size = 33 := rfl
theorem motN_eq (ac wh : Int) (p : Par) (ds : Int) (am : Nat) (s en : Int) (A1 : Option Addr) (c1 : Nat) (A2 : Option Addr) (c2 : Nat) (y n : List Nat) : motN ac wh p ds am s en A1 y.length c1 A2 n.length c2 = motC (⟨ac, wh, p, ds, am, en, 0, s, y, n⟩, ⟨A1, c1, A2, c2⟩) := rfl
theorem motN_one (ac wh : Int) (p : Par) (ds : Int) (am : Nat) (s en : Int) (A1 : Option Addr) (n1 c1 : Nat) (A2 : Option Addr) (n2 c2 : Nat) : allOne (motN ac wh p ds am s en A1 n1 c1 A2 n2 c2) = true := by
  have h := motN_eq ac wh p ds am s en A1 c1 A2 c2 (List.replicate n1 0) (List.replicate n2 0)
  rw [List.length_replicate, List.length_replicate] at h
  rw [h]
  exact motC_one _
theorem mot_built (ac wh : Int) (p : Par) (ds : Int) (am : Nat) (s en : Int) (A1 : Option Addr) (n1 c1 : Nat) (A2 : Option Addr) (n2 c2 : Nat) :
    Try.prog.built 103 [(0, .int .i64 ac), (1, .int .i64 wh), (2, .agg p.cells), (3, .int .i64 ds), (4, .int .u64 (am : Int)), (7, .int .i64 s), (5, .int .i64 en), (8, .slice A1 n1 c1), (9, .slice A2 n2 c2)] = some (motN ac wh p ds am s en A1 n1 c1 A2 n2 c2) := by kernel_rfl
theorem mot_run_build {ρ : Operand → Value} {dst : Option Tmp} {x0 x1 x2 x3 x4 x7 x5 x8 x9 : Operand} {ty : TypeId} {pos : String} {after : Array Edge} {gd : Option (Nat × Bool)} {w : World}
    (h : (Try.prog.built 103 [(0, ρ x0), (1, ρ x1), (2, ρ x2), (3, ρ x3), (4, ρ x4), (7, ρ x7), (5, ρ x5), (8, ρ x8), (9, ρ x9)]).isSome = true) :
    (execOp ρ ⟨dst, .build 103 #[(0, x0), (1, x1), (2, x2), (3, x3), (4, x4), (7, x7), (5, x5), (8, x8), (9, x9)], ty, pos, after, gd⟩).run Try.prog w = .ok (.value (.agg ((Try.prog.built 103 [(0, ρ x0), (1, ρ x1), (2, ρ x2), (3, ρ x3), (4, ρ x4), (7, ρ x7), (5, ρ x5), (8, ρ x8), (9, ρ x9)]).getD #[]))) w := by
  obtain ⟨cs, hc⟩ := Option.isSome_iff_exists.1 h
  unfold execOp
  simp [run_build, hc]
attribute [go_sem ↓] mot_run_build
attribute [go_sem] mot_built motN_size motN_one
theorem bys_ownM {W : World} {A : Option Addr} {n c : Nat} {l : List Nat} (h : OwnB W (.slice A n c) l) : Bys W A l := by
  obtain ⟨A', c', e, hb, _⟩ := h.form
  cases e
  exact hb
theorem nob_own {w w1 : World} (h : w1.ownsRow 0 5 1 (.slice (some ⟨w.heap.size, 0, none⟩) 16 16) 16 (madeCells (Value.int .u8 0).cells (16 * 1)).toList) : OwnB w1 (.slice (some ⟨w.heap.size, 0, none⟩) 16 16) nob := by
  have e : (madeCells (Value.int .u8 0).cells (16 * 1)).toList = nob.map fun x : Nat => Value.int .u8 ((x : Nat) : Int) := by
    rw [show (Value.int .u8 0).cells = #[Value.int .u8 0] from rfl, toList_madeCells_one]; rfl
  unfold OwnB
  rw [← e]
  exact h
/-- The new motion lies well, and not where the list lies. -/
theorem openM_at {p : Par} {d : Ded} {ep : Int} {W : World} {b g : Nat} {A1 : Option Addr} {c1 : Nat} (h0 : OwnB W (.slice (some ⟨b, 0, none⟩) 16 16) nob) (h1 : OwnB W (.slice A1 16 c1) nob) (hb : b < g) (hA : ∀ a, A1 = some a → a.block < g) :
    MotAt W (openM p d ep, ⟨some ⟨b, 0, none⟩, 16, A1, c1⟩) ∧ ∀ k, MotB (openM p d ep, ⟨some ⟨b, 0, none⟩, 16, A1, c1⟩) k → k ≠ g :=
  ⟨⟨bys_ownM (l := nob) (n := 16) h0, bys_ownM (l := nob) (n := 16) h1, fun h => (by cases h), OwnB.nilcap h1⟩, fun k hk => by
    rcases hk with ⟨_, a, ha, rfl⟩ | ⟨_, a, ha, rfl⟩
    · have : a = ⟨b, 0, none⟩ := (Option.some.inj ha).symm
      subst this; exact Nat.ne_of_lt hb
    · exact Nat.ne_of_lt (hA a ha)⟩
theorem ownB_lt {W : World} {A1 : Option Addr} {c1 : Nat} (h1 : OwnB W (.slice A1 16 c1) nob) : ∀ a, A1 = some a → a.block < W.heap.size := fun a ha => by
  subst ha
  exact h1.lt _ rfl
theorem OwnMo.list {w w' : World} {L : List Mot} {e : Ending} (h : OwnMo w L e w') : Below w.heap.size w w' ∧ ∃ A6 n6 c6 ys, e = .returned (.slice A6 n6 c6) ∧ Hid (OwnC 103 33 motC w' w.heap.size (.slice A6 n6 c6) ys) ∧ Hid (∀ x ∈ ys, (MotAt w' x ∧ ∀ a, A6 = some a → ∀ k, MotB x k → k ≠ a.block) ∧ x.1.Ok) ∧ Hid (ys.map (·.1) = L ∧ ys.length = L.length ∧ n6 = L.length) ∧ Hid (∀ a, A6 = some a → w.heap.size ≤ a.block) := by
  refine ⟨h.1, ?_⟩
  rcases h.2 with ⟨rfl, A, c, rfl, h1, h2, h3⟩ | ⟨g, n, cap, xs, rfl, hM, rfl⟩
  · exact ⟨A, 0, c, [], rfl, Lib.hid h3, Lib.hid (fun x hx => (List.not_mem_nil hx).elim), Lib.hid ⟨rfl, rfl, rfl⟩, Lib.hid h2⟩
  · refine ⟨_, n, cap, xs, rfl, Lib.hid hM.own, Lib.hid (fun x hx => ⟨⟨(hM.at_ x hx).1, fun a ha k hk => ?_⟩, hM.ok x hx⟩), Lib.hid ⟨rfl, by rw [List.length_map], by rw [List.length_map]; exact hM.own.num⟩, Lib.hid (fun a ha => ?_)⟩
    · have : a = ⟨g, 0, none⟩ := (Option.some.inj ha).symm
      subst this; exact (hM.at_ x hx).2 k hk
    · have : a = ⟨g, 0, none⟩ := (Option.some.inj ha).symm
      subst this; exact hM.own.inBlock.1
theorem openM_ok {p : Par} {d : Ded} {ep : Int} (hd : d.Ok) (h1 : betw ep 0 1073741824 = true) (h2 : 1 ≤ p.poll ∧ p.poll ≤ 1000) : (openM p d ep).Ok := by
  have h := of_decide_eq_true h1
  have hb : bytesOk nob ∧ nob.length ≤ 9223372036854775807 := ⟨by unfold bytesOk nob; intro x; rw [List.getD_eq_getElem?_getD, List.getElem?_replicate]; split <;> simp, by decide⟩
  exact ⟨hd.account, hd.what, hd.dest, hd.amount, by show i64ok (ep + p.poll); unfold i64ok; omega, by show i64ok 0; unfold i64ok; omega, by show i64ok 1; unfold i64ok; omega, hd.par, hb, hb⟩
set_option maxRecDepth 100000 in
set_option maxHeartbeats 8000000 in
theorem mopen_any (p : Par) (A : Option Addr) (n c : Nat) (xs : List (Mot × MotA)) (d : Ded) (a : DedA) (ep : Int) (hd : d.Ok) (hep : i64ok ep) (hn : xs.length = n) (h0 : A = none → c = 0) (hm : n ≤ 1000) (w : World) (hX : ML w A xs) (hf : ∀ x ∈ xs, x.1.yes.length ≤ 1000000 ∧ x.1.no.length ≤ 1000000) :
    Calls Try.prog 33 #[.agg p.cells, .slice A n c, .agg (dedC (d, a)), .int .i64 ep] w (RetO w (openL p (xs.map (·.1)) d ep) (openI p (xs.map (·.1)) d ep) (openE p (xs.map (·.1)) d ep)) := by
  have r0 : row ((w.alloc (.cells p.cells 76)).alloc (.cells (dedC (d, a)) 79)) w.heap.size = some p.cells := (by (repeat (first | assumption | (refine row_at _ _ _ _ ?_; first | rfl | (simp only [World.size_alloc]; done) | (simp only [World.size_alloc]; omega)) | (refine (row_past _ _ _ ?_).trans ?_; (focus (first | exact Nat.lt_succ_self _ | ((repeat rw [World.size_alloc]); omega) | (simp; done) | (simp; omega) | omega))) | rw [row_drewN] | rw [row_drew])); (first | done | fail))
  have q0 : row ((w.alloc (.cells p.cells 76)).alloc (.cells (dedC (d, a)) 79)) (w.heap.size + 1) = some (dedC (d, a)) := (by (repeat (first | assumption | (refine row_at _ _ _ _ ?_; first | rfl | (simp only [World.size_alloc]; done) | (simp only [World.size_alloc]; omega)) | (refine (row_past _ _ _ ?_).trans ?_; (focus (first | exact Nat.lt_succ_self _ | ((repeat rw [World.size_alloc]); omega) | (simp; done) | (simp; omega) | omega))) | rw [row_drewN] | rw [row_drew])); (first | done | fail))
  have hB0 : Below w.heap.size w ((w.alloc (.cells p.cells 76)).alloc (.cells (dedC (d, a)) 79)) := (by (repeat (first | exact Below.refl _ _ | assumption | (refine Below.allocT ?_ _) | refine Below.drew ?_ | refine below_drewN ?_ _ | (refine Below.then ?_ (by assumption)) | (refine Below.setRow ?_ ?_ _; rotate_left; (focus (first | exact Nat.lt_succ_self _ | ((repeat rw [World.size_alloc]); omega) | (simp; done) | (simp; omega) | omega))) | (refine Below.setCell ?_ ?_ _; rotate_left; (focus (first | exact Nat.lt_succ_self _ | ((repeat rw [World.size_alloc]); omega) | (simp; done) | (simp; omega) | omega))) | (refine Below.then' ?_ (by assumption) ?_; rotate_left; (focus (first | exact Nat.lt_succ_self _ | ((repeat rw [World.size_alloc]); omega) | (simp; done) | (simp; omega) | omega))) | fail)); (first | done | fail))
  have HCk := Lib.hid (fun W => check_any p W)
  generalize hL : xs.map (·.1) = L
  have HLe := Lib.hid hL
  have HX0 := Lib.hid (hX.stay hB0)
  have HB0 := Lib.hid hB0
  have HF := Lib.hid hf
  have hD' := Lib.hid hd
  have HN := Lib.hid hn
  have HC0 := Lib.hid h0
  clear hX hL hB0 hf hn h0
  by_cases hr : rightB p = true
  case neg =>
    have hr' : rightB p = false := by simpa using hr
    rw [show checkE p = 70 by simp [checkE, hr']] at HCk
    have hE : openE p L d ep = 70 := by unfold openE; rw [if_pos hr']
    have HEnd : Hid (∀ W, Below w.heap.size w W → RetO w (openL p L d ep) (openI p L d ep) (openE p L d ep) (.returned (.tuple #[.slice none 0 0, .int .i64 0, .int .i64 70])) W) := Lib.hid fun W h => by
      unfold openL openI; rw [hE]; exact RetO.no h
    clear hr hr' hE
    go_enter Try.func33, Try.ntmps33
    go_upto_region 1 with fail
    change Code.wp _ _ _ _ ((w.alloc (.cells p.cells 76)).alloc (.cells (dedC (d, a)) 79))
    generalize (w.alloc (.cells p.cells 76)).alloc (.cells (dedC (d, a)) 79) = w0 at *
    go_wp2_with fail
    refine (HCk.out _).mono ?_
    rintro e w1 ⟨rfl, hb1⟩
    have HB1 := Lib.hid (Below.then HB0.out hb1)
    clear hb1
    go_wp2_with fail
    go_ret3
    exact HEnd.out _ HB1.out
  case pos =>
    rw [show checkE p = 0 by simp [checkE, hr]] at HCk
    have HR := Lib.hid hr
    have hpoll : Hid (1 ≤ p.poll ∧ p.poll ≤ 1000) := Lib.hid (by
      unfold rightB at hr
      simp only [Bool.and_eq_true] at hr
      exact (others_facts hr.2.2.1).2.2.2.2.2.1)
    clear hr
    go_enter Try.func33, Try.ntmps33
    go_upto_region 1 with fail
    change Code.wp _ _ _ _ ((w.alloc (.cells p.cells 76)).alloc (.cells (dedC (d, a)) 79))
    generalize (w.alloc (.cells p.cells 76)).alloc (.cells (dedC (d, a)) 79) = w0 at *
    go_upto_region 3 with (go_at_call 81; refine (HCk.out _).mono ?_; rintro e w1 ⟨rfl, hb1⟩)
    have HB1 := Lib.hid (Below.then HB0.out hb1)
    have HX1 := Lib.hid (HX0.out.stay hb1)
    have r1 := below_row' hb1 r0
    have q1 := below_row' hb1 q0
    clear r0 q0 hb1 HB0 HX0 HCk
    have k0 : w1.cell? ⟨w.heap.size + 1, 0, none⟩ = some (.int .i64 d.kind) := row_cell q1 0
    have HErr : Hid (∀ E : Int, E ≠ 0 → openE p L d ep = E → ∀ W, Below w.heap.size w W → RetO w (openL p L d ep) (openI p L d ep) (openE p L d ep) (.returned (.tuple #[.slice none 0 0, .int .i64 0, .int .i64 E])) W) := Lib.hid fun E h0 hE W h => by
      unfold openL openI; rw [hE, if_neg h0, if_neg h0]; exact RetO.no h
    by_cases hk : d.kind = 6
    case neg =>
      have e1 : (d.kind != 6) = true := bne_iff_ne.2 hk
      have hE : openE p L d ep = 80 := by unfold openE; rw [if_neg (by rw [HR.out]; exact Bool.noConfusion), if_pos (.inl hk)]
      have HEnd := Lib.hid (HErr.out 80 (by decide) hE)
      clear hk hE HErr
      go_wp2_with fail
      go_ret3
      exact HEnd.out _ HB1.out
    case pos =>
    have HD := Lib.hid (dright6_any d a hk w1)
    have e1 : (d.kind != 6) = false := bne_eq_false_iff_eq.2 hk
    have HK := Lib.hid hk
    clear hk
    by_cases hrd : rightD d = true
    case neg =>
      have hrd' : rightD d = false := by simpa using hrd
      have hE : openE p L d ep = 80 := by unfold openE; rw [if_neg (by rw [HR.out]; exact Bool.noConfusion), if_pos (.inr hrd')]
      have HEnd := Lib.hid (HErr.out 80 (by decide) hE)
      rw [hrd'] at HD
      clear hrd hrd' hE HErr
      go_wp2_with fail
      refine (HD.out).mono ?_
      rintro e w2 ⟨rfl, hb2⟩
      have HB2 := Lib.hid (Below.then HB1.out hb2)
      clear hb2
      go_wp2_with fail
      go_ret3
      exact HEnd.out _ HB2.out
    case pos =>
    rw [hrd] at HD
    have HRD := Lib.hid hrd
    clear hrd
    have HW := Lib.hid (fun W => mwithin_any ep 0 1073741824 W)
    have HI := Lib.hid (index_any A n c xs HN.out (by omega))
    go_upto_region 5 with (go_at_call 82; refine (HD.out).mono ?_; rintro e w2 ⟨rfl, hb2⟩)
    have HB2 := Lib.hid (Below.then HB1.out hb2)
    have HX2 := Lib.hid (HX1.out.stay hb2)
    have r2 := below_row' hb2 r1
    have q2 := below_row' hb2 q1
    clear r1 q1 hb2 HB1 HX1 HD k0
    by_cases hbt : betw ep 0 1073741824 = true
    case neg =>
      have hbt' : betw ep 0 1073741824 = false := by simpa using hbt
      have hE : openE p L d ep = 2 := by unfold openE; rw [if_neg (by rw [HR.out]; exact Bool.noConfusion), if_neg (by rw [HRD.out, HK.out]; simp), if_pos hbt']
      have HEnd := Lib.hid (HErr.out 2 (by decide) hE)
      rw [hbt'] at HW
      clear hbt hbt' hE HErr
      go_wp2_with fail
      refine (HW.out _).mono ?_
      rintro e w3 ⟨rfl, rfl⟩
      go_wp2_with fail
      go_ret3
      exact HEnd.out _ HB2.out
    case pos =>
    rw [hbt] at HW
    have HBt := Lib.hid hbt
    clear hbt
    go_upto_region 7 with (go_at_call 83; refine (HW.out _).mono ?_; rintro e w3 ⟨rfl, rfl⟩)
    go_upto_region 8 with (go_at_call 84; refine (HI.out _ HX2.out.sl).mono ?_; rintro e w3 ⟨rfl, hb3⟩)
    have HB3 := Lib.hid (Below.then HB2.out hb3)
    have HX3 := Lib.hid (HX2.out.stay hb3)
    have r3 := below_row' hb3 r2
    have q3 := below_row' hb3 q2
    clear r2 q2 hb3 HB2 HX2 HI HW
    have hle : placeL L ≤ n := by have h1 := placeL_le L; have h2 := HN.out; have h3 := HLe.out; rw [← h3, List.length_map, h2] at h1; rw [← h3]; exact h1
    have hLn : L.length = n := by rw [← HLe.out, List.length_map]; exact HN.out
    have HLn := Lib.hid hLn
    have hidx : idxI (xs.map (·.1)) = if placeL L < n then (placeL L : Int) else -1 := by rw [HLe.out]; unfold idxI; rw [hLn]
    rw [hidx]
    clear hidx hLn
    obtain ⟨P, hPe⟩ : ∃ P, P = placeL L := ⟨_, rfl⟩
    rw [← hPe] at hle ⊢
    have HP := Lib.hid hPe
    clear hPe
    by_cases h32 : 32 ≤ P
    case pos =>
      have hE : openE p L d ep = 161 := by unfold openE; rw [if_neg (by rw [HR.out]; exact Bool.noConfusion), if_neg (by rw [HRD.out, HK.out]; simp), if_neg (by rw [HBt.out]; exact Bool.noConfusion), if_pos (by rw [← HP.out]; exact h32)]
      have HEnd := Lib.hid (HErr.out 161 (by decide) hE)
      clear hE HErr
      by_cases hPn : P < n
      · rw [if_pos hPn]
        have z1 : ¬ ((P : Int) < 0) := by omega
        have z2 : (32 : Int) ≤ (P : Int) := by omega
        clear hPn hle h32
        go_wp2_with fail
        go_ret3
        exact HEnd.out _ HB3.out
      · obtain rfl : P = n := by omega
        rw [if_neg hPn]
        have z2 : (32 : Int) ≤ (P : Int) := by omega
        clear hPn hle h32
        go_wp2_with fail
        go_ret3
        exact HEnd.out _ HB3.out
    case neg =>
    have hE : openE p L d ep = 0 := by unfold openE; rw [if_neg (by rw [HR.out]; exact Bool.noConfusion), if_neg (by rw [HRD.out, HK.out]; simp), if_neg (by rw [HBt.out]; exact Bool.noConfusion), if_neg (by rw [← HP.out]; exact h32)]
    have HEnd : Hid (∀ W A' n' c' ys, Below w.heap.size w W → ys.length = n' → ML W A' ys → ys.map (·.1) = (if P = L.length then L ++ [openM p d ep] else L.set P (openM p d ep)) → (A' = none → c' = 0) → RetO w (openL p L d ep) (openI p L d ep) (openE p L d ep) (.returned (.tuple #[.slice A' n' c', .int .i64 (P : Int), .int .i64 0])) W) := Lib.hid fun W A' n' c' ys h1 h2 h3 h4 h5 => by
      unfold openL openI
      rw [hE, if_pos rfl, if_pos rfl, ← HP.out, ← h4]
      exact ⟨A', n', c', ys, rfl, h2, h3, rfl, h5, h1⟩
    clear hE HErr
    have z32 : ¬ ((32 : Int) ≤ (P : Int)) := by omega
    have e21 : IntKind.i64.wrap (ep + p.poll) = ep + p.poll := by
      have h1 := of_decide_eq_true HBt.out
      have h2 := hpoll.out
      exact IntWalk.i64_in _ (by omega)
    obtain ⟨i0, hi, hz0, hz1, hz2⟩ := info_parts u8_info
    by_cases hPn : P < n
    case pos =>
      rw [if_pos hPn]
      have z1 : ¬ ((P : Int) < 0) := by omega
      go_upto_region 13 with (first | (go_at_call 86; refine (size128 _).mono ?_; rintro e w4 ⟨rfl, rfl⟩) | (at_make; refine wpList_make_full w3 rfl _ _ 64 rfl 0 5 i0 (.int .u8 0) 1 u8s_under hi hz0 hz1 .i64 .i64 16 16 16 (by rfl) (by rfl) rfl rfl (by rw [hz2]; omega) (by unfold maxLen; omega) (Nat.zero_le _) ?_; intro w4 hown hg; have HO := Lib.hid (nob_own hown); have HG := Lib.hid hg; clear hown hg))
      have hb4 : Below w3.heap.size w3 w4 := (Below.refl _ w3).grown HG.out (Nat.le_refl _) (fun k hk => by cases hk)
      have HB4 := Lib.hid (Below.then HB3.out hb4)
      have HX4 := Lib.hid (HX3.out.stay hb4)
      have r4 := below_row' hb4 r3
      have q4 := below_row' hb4 q3
      clear r3 q3 hb4 HB3 HX3 HG hi hz0 hz1 hz2 i0
      have HCl := Lib.hid (fun W h => clone_bytes (some ⟨w3.heap.size, 0, none⟩) 16 16 nob rfl (fun h => by cases h) (by omega) W (bys_ownM (OwnB.stay HO.out h)))
      go_cut [12] (fun s12 wx => ∃ (V : World) (g : Nat) (A1 : Option Addr) (c1 : Nat), s12 = .pointer (some ⟨g, 0, none⟩) ∧ V = wx ∧ Below w4.heap.size w4 V ∧ w4.heap.size ≤ g ∧ row V g = some (motC (openM p d ep, ⟨some ⟨w3.heap.size, 0, none⟩, 16, A1, c1⟩)) ∧ Hid (OwnB V (.slice A1 16 c1) nob) ∧ Hid (∀ a, A1 = some a → w4.heap.size ≤ a.block))
      case first =>
        have HM : Hid (∀ w', Below w4.heap.size w4 w' → row w' w.heap.size = some p.cells ∧ row w' (w.heap.size + 1) = some (dedC (d, a)) ∧ w'.cell? ⟨w.heap.size, 21, none⟩ = some (.int .i64 p.poll) ∧ w'.cell? ⟨w.heap.size + 1, 1, none⟩ = some (.int .i64 d.account) ∧ w'.cell? ⟨w.heap.size + 1, 7, none⟩ = some (.int .i64 d.what) ∧ w'.cell? ⟨w.heap.size + 1, 3, none⟩ = some (.int .i64 d.dest) ∧ w'.cell? ⟨w.heap.size + 1, 4, none⟩ = some (.int .u64 (d.amount : Int))) := Lib.hid fun w' h => by
          have r5 := below_row' h r4
          have q5 := below_row' h q4
          exact ⟨r5, q5, row_cell r5 21, row_cell q5 1, row_cell q5 7, row_cell q5 3, row_cell q5 4⟩
        go_region_held3 (fun w' => row w' w.heap.size = some p.cells ∧ row w' (w.heap.size + 1) = some (dedC (d, a)) ∧ w'.cell? ⟨w.heap.size, 21, none⟩ = some (.int .i64 p.poll) ∧ w'.cell? ⟨w.heap.size + 1, 1, none⟩ = some (.int .i64 d.account) ∧ w'.cell? ⟨w.heap.size + 1, 7, none⟩ = some (.int .i64 d.what) ∧ w'.cell? ⟨w.heap.size + 1, 3, none⟩ = some (.int .i64 d.dest) ∧ w'.cell? ⟨w.heap.size + 1, 4, none⟩ = some (.int .u64 (d.amount : Int))) (exact HM.out _ (by (repeat (first | exact Below.refl _ _ | assumption | (refine Below.allocT ?_ _) | refine Below.drew ?_ | refine below_drewN ?_ _ | (refine Below.then ?_ (by assumption)) | (refine Below.setRow ?_ ?_ _; rotate_left; (focus (first | exact Nat.lt_succ_self _ | ((repeat rw [World.size_alloc]); omega) | (simp; done) | (simp; omega) | omega))) | (refine Below.setCell ?_ ?_ _; rotate_left; (focus (first | exact Nat.lt_succ_self _ | ((repeat rw [World.size_alloc]); omega) | (simp; done) | (simp; omega) | omega))) | (refine Below.then' ?_ (by assumption) ?_; rotate_left; (focus (first | exact Nat.lt_succ_self _ | ((repeat rw [World.size_alloc]); omega) | (simp; done) | (simp; omega) | omega))) | fail)); (first | done | fail))) (first | (go_at_call 87; refine (HCl.out _ (by (repeat (first | exact Below.refl _ _ | assumption | (refine Below.allocT ?_ _) | refine Below.drew ?_ | refine below_drewN ?_ _ | (refine Below.then ?_ (by assumption)) | (refine Below.setRow ?_ ?_ _; rotate_left; (focus (first | exact Nat.lt_succ_self _ | ((repeat rw [World.size_alloc]); omega) | (simp; done) | (simp; omega) | omega))) | (refine Below.setCell ?_ ?_ _; rotate_left; (focus (first | exact Nat.lt_succ_self _ | ((repeat rw [World.size_alloc]); omega) | (simp; done) | (simp; omega) | omega))) | (refine Below.then' ?_ (by assumption) ?_; rotate_left; (focus (first | exact Nat.lt_succ_self _ | ((repeat rw [World.size_alloc]); omega) | (simp; done) | (simp; omega) | omega))) | fail)); (first | done | fail))).mono ?_; rintro e w5 ⟨A5, c5, rfl, hO5, hA5, hb5⟩; (try (have hx5 : (row w5 w4.heap.size).map (·.size) = some 33 := (congrArg (Option.map (·.size)) (row_below hb5 (show w4.heap.size < _ from by first | exact Nat.lt_succ_self _ | (simp; done) | omega | (simp only [World.size_alloc, size_drew]; omega)))).trans (congrArg (Option.map (·.size)) (show row _ w4.heap.size = some (motC (Mot.zero, MotA.nil)) from (by (repeat (first | assumption | (refine row_at _ _ _ _ ?_; first | rfl | (simp only [World.size_alloc]; done) | (simp only [World.size_alloc]; omega)) | (refine (row_past _ _ _ ?_).trans ?_; (focus (first | exact Nat.lt_succ_self _ | ((repeat rw [World.size_alloc]); omega) | (simp; done) | (simp; omega) | omega))) | rw [row_drewN] | rw [row_drew])); (first | done | fail))))))))
        all_goals
          have hcell : some (motN d.account d.what d.par d.dest d.amount 1 (ep + p.poll) (some ⟨w3.heap.size, 0, none⟩) 16 16 A5 nob.length c5) = some (motC (openM p d ep, ⟨some ⟨w3.heap.size, 0, none⟩, 16, A5, c5⟩)) := congrArg some (motN_eq d.account d.what d.par d.dest d.amount 1 (ep + p.poll) (some ⟨w3.heap.size, 0, none⟩) 16 A5 c5 nob nob)
          have hA5' : ∀ a, A5 = some a → w4.heap.size ≤ a.block := fun x hx => by
            have h := hA5 x hx
            have zd : ∀ W : World, W.drew.heap.size = W.heap.size := fun _ => rfl
            (repeat (first | rw [World.size_alloc] at h | rw [zd] at h)); omega
          have z5 : w4.heap.size ≤ w5.heap.size := by
            have h := hb5.size
            have zd : ∀ W : World, W.drew.heap.size = W.heap.size := fun _ => rfl
            (repeat (first | rw [World.size_alloc] at h | rw [zd] at h)); omega
          go_wp2_with fail
          go_meet
          first
            | exact ⟨_, _, A5, c5, rfl, rfl, (by (repeat (first | exact Below.refl _ _ | assumption | (refine Below.allocT ?_ _) | refine Below.drew ?_ | refine below_drewN ?_ _ | (refine Below.then ?_ (by assumption)) | (refine Below.setRow ?_ ?_ _; rotate_left; (focus (first | exact Nat.lt_succ_self _ | ((repeat rw [World.size_alloc]); omega) | (simp; done) | (simp; omega) | omega))) | (refine Below.setCell ?_ ?_ _; rotate_left; (focus (first | exact Nat.lt_succ_self _ | ((repeat rw [World.size_alloc]); omega) | (simp; done) | (simp; omega) | omega))) | (refine Below.then' ?_ (by assumption) ?_; rotate_left; (focus (first | exact Nat.lt_succ_self _ | ((repeat rw [World.size_alloc]); omega) | (simp; done) | (simp; omega) | omega))) | fail)); (first | done | fail)), z5, (row_at _ _ _ _ rfl).trans hcell, Lib.hid (OwnB.stay hO5 (by (repeat (first | exact Below.refl _ _ | assumption | (refine Below.allocT ?_ _) | refine Below.drew ?_ | refine below_drewN ?_ _ | (refine Below.then ?_ (by assumption)) | (refine Below.setRow ?_ ?_ _; rotate_left; (focus (first | exact Nat.lt_succ_self _ | ((repeat rw [World.size_alloc]); omega) | (simp; done) | (simp; omega) | omega))) | (refine Below.setCell ?_ ?_ _; rotate_left; (focus (first | exact Nat.lt_succ_self _ | ((repeat rw [World.size_alloc]); omega) | (simp; done) | (simp; omega) | omega))) | (refine Below.then' ?_ (by assumption) ?_; rotate_left; (focus (first | exact Nat.lt_succ_self _ | ((repeat rw [World.size_alloc]); omega) | (simp; done) | (simp; omega) | omega))) | fail)); (first | done | fail))), Lib.hid hA5'⟩
            | exact ⟨_, _, A5, c5, rfl, rfl, (by (repeat (first | exact Below.refl _ _ | assumption | (refine Below.allocT ?_ _) | refine Below.drew ?_ | refine below_drewN ?_ _ | (refine Below.then ?_ (by assumption)) | (refine Below.setRow ?_ ?_ _; rotate_left; (focus (first | exact Nat.lt_succ_self _ | ((repeat rw [World.size_alloc]); omega) | (simp; done) | (simp; omega) | omega))) | (refine Below.setCell ?_ ?_ _; rotate_left; (focus (first | exact Nat.lt_succ_self _ | ((repeat rw [World.size_alloc]); omega) | (simp; done) | (simp; omega) | omega))) | (refine Below.then' ?_ (by assumption) ?_; rotate_left; (focus (first | exact Nat.lt_succ_self _ | ((repeat rw [World.size_alloc]); omega) | (simp; done) | (simp; omega) | omega))) | fail)); (first | done | fail)), Nat.le_refl _, (row_setRow (Option.map_eq_some_iff.1 hx5).choose_spec.1).trans hcell, Lib.hid (OwnB.chg hO5 ((Chg.refl (fun k => k = w4.heap.size) _).setRow (.inl rfl) _) (fun k hk e => by
                cases A5 with
                | none => cases hk
                | some x =>
                  have h := hA5 x rfl
                  have hk' : x.block = k := Option.some.inj hk
                  have zd : ∀ W : World, W.drew.heap.size = W.heap.size := fun _ => rfl
                  (repeat (first | rw [World.size_alloc] at h | rw [zd] at h))
                  omega)), Lib.hid hA5'⟩
      case rest =>
        obtain ⟨V, g1, A1, c1, rfl, rfl, hBV, hg1, rV, HO1, HA1⟩ := hcut
        have HBV := Lib.hid hBV
        have HRV := Lib.hid rV
        have hXV := HX4.out.stay hBV
        have HOwn := Lib.hid (mown_any A n c xs HN.out HC0.out hm V hXV HF.out)
        have HO0 := Lib.hid (OwnB.stay HO.out hBV)
        have HG1 := Lib.hid hg1
        have eb : ((P : Int) == (n : Int)) = false := beq_eq_false_iff_ne.2 (by omega)
        have zP : (0 : Int) ≤ (P : Int) := by omega
        have zPn : (P : Int) < (n : Int) := by omega
        clear hXV rV hBV r4 q4 HCl HX4 hg1
        go_upto_region 15 with (go_at_call 88; refine (HOwn.out).mono ?_; rintro e w6 ⟨hb6, (⟨hnil, _⟩ | ⟨g, n', cap, ys, rfl, hMO, hys⟩)⟩; first | exact absurd (congrArg List.length hnil) (by rw [List.length_map, HN.out]; simp; omega) | skip)
        have hys' : ys.map (·.1) = L := hys.trans HLe.out
        have hn' : n' = n := by
          have h1 := hMO.own.num
          have h2 := congrArg List.length hys
          rw [List.length_map, List.length_map, HN.out] at h2
          omega
        subst hn'
        have hyl : P < ys.length := by have := hMO.own.num; omega
        have hgB := hMO.own.inBlock.1
        have hVl := HBV.out.size
        have hlt1 := ownB_lt HO1.out
        have HAt := Lib.hid (openM_at (p := p) (d := d) (ep := ep) (g := g) (OwnB.stay HO0.out hb6) (OwnB.stay HO1.out hb6) (Nat.lt_of_lt_of_le (HO0.out.lt _ rfl) hgB) (fun x hx => Nat.lt_of_lt_of_le (hlt1 x hx) hgB))
        have HPut := Lib.hid (hMO.putAll hyl HAt.out (openM_ok hD'.out HBt.out hpoll.out))
        have hth := hMO.thereAt hyl
        have r6 := below_row' hb6 HRV.out
        have HB6 := Lib.hid (Below.then HB4.out (Below.then HBV.out hb6))
        have HgW : Hid (w.heap.size ≤ g) := Lib.hid (by have h1 := HB4.out.size; omega)
        have HYs : Hid ((ys.set P (openM p d ep, ⟨some ⟨w3.heap.size, 0, none⟩, 16, A1, c1⟩)).map (·.1) = if P = L.length then L ++ [openM p d ep] else L.set P (openM p d ep)) := Lib.hid (by
          rw [if_neg (by rw [HLn.out]; omega), List.map_set, hys'])
        have HYl := Lib.hid hMO.own.num
        clear hMO hys hys' hyl hgB hVl hlt1 hb6 HO0 HO1 HA1 HG1 HOwn
        go_wp2_with (refine wpList_store_mid rfl 103 _ _ (by rfl) g (P * 33) (motC (openM p d ep, ⟨some ⟨w3.heap.size, 0, none⟩, 16, A1, c1⟩)) (by rfl) (by rfl) hth mot_info (motC_one _) ?_)
        go_ret3
        exact HEnd.out _ _ _ _ _ (Below.trans HB6.out ((chg_setCells' (S := fun k => k = g) rfl _ _ _ (Chg.refl _ w6)).toBelow (B := w.heap.size) (fun k hk => by have := HgW.out; have hk' : k = g := hk; omega) HB6.out.size)) (by rw [List.length_set]; exact HYl.out.symm) HPut.out.ml HYs.out (fun h => by cases h)
    case neg =>
      obtain rfl : P = n := by omega
      rw [if_neg hPn]
      go_upto_region 13 with (first | (go_at_call 86; refine (size128 _).mono ?_; rintro e w4 ⟨rfl, rfl⟩) | (at_make; refine wpList_make_full w3 rfl _ _ 64 rfl 0 5 i0 (.int .u8 0) 1 u8s_under hi hz0 hz1 .i64 .i64 16 16 16 (by rfl) (by rfl) rfl rfl (by rw [hz2]; omega) (by unfold maxLen; omega) (Nat.zero_le _) ?_; intro w4 hown hg; have HO := Lib.hid (nob_own hown); have HG := Lib.hid hg; clear hown hg))
      have hb4 : Below w3.heap.size w3 w4 := (Below.refl _ w3).grown HG.out (Nat.le_refl _) (fun k hk => by cases hk)
      have HB4 := Lib.hid (Below.then HB3.out hb4)
      have HX4 := Lib.hid (HX3.out.stay hb4)
      have r4 := below_row' hb4 r3
      have q4 := below_row' hb4 q3
      clear r3 q3 hb4 HB3 HX3 HG hi hz0 hz1 hz2 i0
      have HCl := Lib.hid (fun W h => clone_bytes (some ⟨w3.heap.size, 0, none⟩) 16 16 nob rfl (fun h => by cases h) (by omega) W (bys_ownM (OwnB.stay HO.out h)))
      go_cut [12] (fun s12 wx => ∃ (V : World) (g : Nat) (A1 : Option Addr) (c1 : Nat), s12 = .pointer (some ⟨g, 0, none⟩) ∧ V = wx ∧ Below w4.heap.size w4 V ∧ w4.heap.size ≤ g ∧ row V g = some (motC (openM p d ep, ⟨some ⟨w3.heap.size, 0, none⟩, 16, A1, c1⟩)) ∧ Hid (OwnB V (.slice A1 16 c1) nob) ∧ Hid (∀ a, A1 = some a → w4.heap.size ≤ a.block))
      case first =>
        have HM : Hid (∀ w', Below w4.heap.size w4 w' → row w' w.heap.size = some p.cells ∧ row w' (w.heap.size + 1) = some (dedC (d, a)) ∧ w'.cell? ⟨w.heap.size, 21, none⟩ = some (.int .i64 p.poll) ∧ w'.cell? ⟨w.heap.size + 1, 1, none⟩ = some (.int .i64 d.account) ∧ w'.cell? ⟨w.heap.size + 1, 7, none⟩ = some (.int .i64 d.what) ∧ w'.cell? ⟨w.heap.size + 1, 3, none⟩ = some (.int .i64 d.dest) ∧ w'.cell? ⟨w.heap.size + 1, 4, none⟩ = some (.int .u64 (d.amount : Int))) := Lib.hid fun w' h => by
          have r5 := below_row' h r4
          have q5 := below_row' h q4
          exact ⟨r5, q5, row_cell r5 21, row_cell q5 1, row_cell q5 7, row_cell q5 3, row_cell q5 4⟩
        go_region_held3 (fun w' => row w' w.heap.size = some p.cells ∧ row w' (w.heap.size + 1) = some (dedC (d, a)) ∧ w'.cell? ⟨w.heap.size, 21, none⟩ = some (.int .i64 p.poll) ∧ w'.cell? ⟨w.heap.size + 1, 1, none⟩ = some (.int .i64 d.account) ∧ w'.cell? ⟨w.heap.size + 1, 7, none⟩ = some (.int .i64 d.what) ∧ w'.cell? ⟨w.heap.size + 1, 3, none⟩ = some (.int .i64 d.dest) ∧ w'.cell? ⟨w.heap.size + 1, 4, none⟩ = some (.int .u64 (d.amount : Int))) (exact HM.out _ (by (repeat (first | exact Below.refl _ _ | assumption | (refine Below.allocT ?_ _) | refine Below.drew ?_ | refine below_drewN ?_ _ | (refine Below.then ?_ (by assumption)) | (refine Below.setRow ?_ ?_ _; rotate_left; (focus (first | exact Nat.lt_succ_self _ | ((repeat rw [World.size_alloc]); omega) | (simp; done) | (simp; omega) | omega))) | (refine Below.setCell ?_ ?_ _; rotate_left; (focus (first | exact Nat.lt_succ_self _ | ((repeat rw [World.size_alloc]); omega) | (simp; done) | (simp; omega) | omega))) | (refine Below.then' ?_ (by assumption) ?_; rotate_left; (focus (first | exact Nat.lt_succ_self _ | ((repeat rw [World.size_alloc]); omega) | (simp; done) | (simp; omega) | omega))) | fail)); (first | done | fail))) (first | (go_at_call 87; refine (HCl.out _ (by (repeat (first | exact Below.refl _ _ | assumption | (refine Below.allocT ?_ _) | refine Below.drew ?_ | refine below_drewN ?_ _ | (refine Below.then ?_ (by assumption)) | (refine Below.setRow ?_ ?_ _; rotate_left; (focus (first | exact Nat.lt_succ_self _ | ((repeat rw [World.size_alloc]); omega) | (simp; done) | (simp; omega) | omega))) | (refine Below.setCell ?_ ?_ _; rotate_left; (focus (first | exact Nat.lt_succ_self _ | ((repeat rw [World.size_alloc]); omega) | (simp; done) | (simp; omega) | omega))) | (refine Below.then' ?_ (by assumption) ?_; rotate_left; (focus (first | exact Nat.lt_succ_self _ | ((repeat rw [World.size_alloc]); omega) | (simp; done) | (simp; omega) | omega))) | fail)); (first | done | fail))).mono ?_; rintro e w5 ⟨A5, c5, rfl, hO5, hA5, hb5⟩; (try (have hx5 : (row w5 w4.heap.size).map (·.size) = some 33 := (congrArg (Option.map (·.size)) (row_below hb5 (show w4.heap.size < _ from by first | exact Nat.lt_succ_self _ | (simp; done) | omega | (simp only [World.size_alloc, size_drew]; omega)))).trans (congrArg (Option.map (·.size)) (show row _ w4.heap.size = some (motC (Mot.zero, MotA.nil)) from (by (repeat (first | assumption | (refine row_at _ _ _ _ ?_; first | rfl | (simp only [World.size_alloc]; done) | (simp only [World.size_alloc]; omega)) | (refine (row_past _ _ _ ?_).trans ?_; (focus (first | exact Nat.lt_succ_self _ | ((repeat rw [World.size_alloc]); omega) | (simp; done) | (simp; omega) | omega))) | rw [row_drewN] | rw [row_drew])); (first | done | fail))))))))
        all_goals
          have hcell : some (motN d.account d.what d.par d.dest d.amount 1 (ep + p.poll) (some ⟨w3.heap.size, 0, none⟩) 16 16 A5 nob.length c5) = some (motC (openM p d ep, ⟨some ⟨w3.heap.size, 0, none⟩, 16, A5, c5⟩)) := congrArg some (motN_eq d.account d.what d.par d.dest d.amount 1 (ep + p.poll) (some ⟨w3.heap.size, 0, none⟩) 16 A5 c5 nob nob)
          have hA5' : ∀ a, A5 = some a → w4.heap.size ≤ a.block := fun x hx => by
            have h := hA5 x hx
            have zd : ∀ W : World, W.drew.heap.size = W.heap.size := fun _ => rfl
            (repeat (first | rw [World.size_alloc] at h | rw [zd] at h)); omega
          have z5 : w4.heap.size ≤ w5.heap.size := by
            have h := hb5.size
            have zd : ∀ W : World, W.drew.heap.size = W.heap.size := fun _ => rfl
            (repeat (first | rw [World.size_alloc] at h | rw [zd] at h)); omega
          go_wp2_with fail
          go_meet
          first
            | exact ⟨_, _, A5, c5, rfl, rfl, (by (repeat (first | exact Below.refl _ _ | assumption | (refine Below.allocT ?_ _) | refine Below.drew ?_ | refine below_drewN ?_ _ | (refine Below.then ?_ (by assumption)) | (refine Below.setRow ?_ ?_ _; rotate_left; (focus (first | exact Nat.lt_succ_self _ | ((repeat rw [World.size_alloc]); omega) | (simp; done) | (simp; omega) | omega))) | (refine Below.setCell ?_ ?_ _; rotate_left; (focus (first | exact Nat.lt_succ_self _ | ((repeat rw [World.size_alloc]); omega) | (simp; done) | (simp; omega) | omega))) | (refine Below.then' ?_ (by assumption) ?_; rotate_left; (focus (first | exact Nat.lt_succ_self _ | ((repeat rw [World.size_alloc]); omega) | (simp; done) | (simp; omega) | omega))) | fail)); (first | done | fail)), z5, (row_at _ _ _ _ rfl).trans hcell, Lib.hid (OwnB.stay hO5 (by (repeat (first | exact Below.refl _ _ | assumption | (refine Below.allocT ?_ _) | refine Below.drew ?_ | refine below_drewN ?_ _ | (refine Below.then ?_ (by assumption)) | (refine Below.setRow ?_ ?_ _; rotate_left; (focus (first | exact Nat.lt_succ_self _ | ((repeat rw [World.size_alloc]); omega) | (simp; done) | (simp; omega) | omega))) | (refine Below.setCell ?_ ?_ _; rotate_left; (focus (first | exact Nat.lt_succ_self _ | ((repeat rw [World.size_alloc]); omega) | (simp; done) | (simp; omega) | omega))) | (refine Below.then' ?_ (by assumption) ?_; rotate_left; (focus (first | exact Nat.lt_succ_self _ | ((repeat rw [World.size_alloc]); omega) | (simp; done) | (simp; omega) | omega))) | fail)); (first | done | fail))), Lib.hid hA5'⟩
            | exact ⟨_, _, A5, c5, rfl, rfl, (by (repeat (first | exact Below.refl _ _ | assumption | (refine Below.allocT ?_ _) | refine Below.drew ?_ | refine below_drewN ?_ _ | (refine Below.then ?_ (by assumption)) | (refine Below.setRow ?_ ?_ _; rotate_left; (focus (first | exact Nat.lt_succ_self _ | ((repeat rw [World.size_alloc]); omega) | (simp; done) | (simp; omega) | omega))) | (refine Below.setCell ?_ ?_ _; rotate_left; (focus (first | exact Nat.lt_succ_self _ | ((repeat rw [World.size_alloc]); omega) | (simp; done) | (simp; omega) | omega))) | (refine Below.then' ?_ (by assumption) ?_; rotate_left; (focus (first | exact Nat.lt_succ_self _ | ((repeat rw [World.size_alloc]); omega) | (simp; done) | (simp; omega) | omega))) | fail)); (first | done | fail)), Nat.le_refl _, (row_setRow (Option.map_eq_some_iff.1 hx5).choose_spec.1).trans hcell, Lib.hid (OwnB.chg hO5 ((Chg.refl (fun k => k = w4.heap.size) _).setRow (.inl rfl) _) (fun k hk e => by
                cases A5 with
                | none => cases hk
                | some x =>
                  have h := hA5 x rfl
                  have hk' : x.block = k := Option.some.inj hk
                  have zd : ∀ W : World, W.drew.heap.size = W.heap.size := fun _ => rfl
                  (repeat (first | rw [World.size_alloc] at h | rw [zd] at h))
                  omega)), Lib.hid hA5'⟩
      case rest =>
        obtain ⟨V, g1, A1, c1, rfl, rfl, hBV, hg1, rV, HO1, HA1⟩ := hcut
        have HBV := Lib.hid hBV
        have HRV := Lib.hid rV
        have hXV := HX4.out.stay hBV
        have HOwn := Lib.hid (mown_any A P c xs HN.out HC0.out hm V hXV HF.out)
        have HO0 := Lib.hid (OwnB.stay HO.out hBV)
        clear hXV rV hBV r4 q4 HCl HX4 hg1
        go_upto_region 15 with (go_at_call 88; refine (HOwn.out).mono ?_; rintro e w6 hcase; obtain ⟨hb6, A6, n6, c6, ys, rfl, HOC, HYat, HYs, HA6⟩ := hcase.list)
        have r6 := below_row' hb6 HRV.out
        have HB6 := Lib.hid (Below.then HB4.out (Below.then HBV.out hb6))
        have HO0 := Lib.hid (OwnB.stay HO0.out hb6)
        have HO1' := Lib.hid (OwnB.stay HO1.out hb6)
        have HY : Hid ((openM p d ep, (⟨some ⟨w3.heap.size, 0, none⟩, 16, A1, c1⟩ : MotA)) = (openM p d ep, (⟨some ⟨w3.heap.size, 0, none⟩, 16, A1, c1⟩ : MotA))) := Lib.hid rfl
        have HMY : Hid (MotAt w6 (openM p d ep, ⟨some ⟨w3.heap.size, 0, none⟩, 16, A1, c1⟩) ∧ ∀ a, A6 = some a → ∀ k, MotB (openM p d ep, ⟨some ⟨w3.heap.size, 0, none⟩, 16, A1, c1⟩) k → k ≠ a.block) := Lib.hid ⟨(openM_at (g := V.heap.size) HO0.out HO1'.out (by have := HO0.out.lt _ rfl; have h2 := HO.out.lt _ rfl; have h3 := HBV.out.size; show w3.heap.size < V.heap.size; exact Nat.lt_of_lt_of_le h2 h3) (ownB_lt HO1.out)).1, fun a ha k hk => by
          have h1 := HA6.out a ha
          have h2 := HO.out.lt _ rfl
          have h3 := HBV.out.size
          rcases hk with ⟨_, b, hb, rfl⟩ | ⟨_, b, hb, rfl⟩
          · have : b = ⟨w3.heap.size, 0, none⟩ := (Option.some.inj hb).symm
            subst this; exact Nat.ne_of_lt (Nat.lt_of_lt_of_le (Nat.lt_of_lt_of_le h2 h3) h1)
          · exact Nat.ne_of_lt (Nat.lt_of_lt_of_le (ownB_lt HO1.out b hb) h1)⟩
        have HOkY : Hid (openM p d ep).Ok := Lib.hid (openM_ok hD'.out HBt.out hpoll.out)
        have eb : ((P : Int) == (P : Int)) = true := beq_self_eq_true _
        have HVl : Hid (w.heap.size ≤ V.heap.size) := Lib.hid (by have h1 := HB4.out.size; have h2 := HBV.out.size; omega)
        have HW6 : Hid (V.heap.size ≤ w6.heap.size) := Lib.hid hb6.size
        obtain ⟨hY1, hY2, hY3⟩ := HYs.out
        have hlen : (xs.map (·.1)).length = P := by rw [List.length_map]; exact HN.out
        rw [hlen] at hY2 hY3
        subst hY3
        have HYs2 : Hid (ys.map (·.1) = L) := Lib.hid (hY1.trans HLe.out)
        have HYl : Hid (ys.length = n6) := Lib.hid hY2
        have HPl : Hid (n6 ≤ 31) := Lib.hid (by omega)
        clear hY1 hY2 hlen hb6 HYs HO1 HOwn
        go_wp2_with (first | (refine wpList_slice1 mots_under' mot_info' rfl (by omega) (by omega) rfl _ (by rfl) (motC (openM p d ep, ⟨some ⟨w3.heap.size, 0, none⟩, 16, A1, c1⟩)) (by rfl) (motC_size _) ?_) | (at_builtin; refine wpList_append_d mots_under' mot_info' rfl (by omega) (by omega) motC_size motC_one rfl _ _ (by rfl) V.heap.size (.slice A6 n6 c6) ys (by rfl) (HOC.out.stay (show Below w6.heap.size w6 _ from (by (repeat (first | exact Below.refl _ _ | assumption | (refine Below.allocT ?_ _) | refine Below.drew ?_ | refine below_drewN ?_ _ | (refine Below.then ?_ (by assumption)) | (refine Below.setRow ?_ ?_ _; rotate_left; (focus (first | exact Nat.lt_succ_self _ | ((repeat rw [World.size_alloc]); omega) | (simp; done) | (simp; omega) | omega))) | (refine Below.setCell ?_ ?_ _; rotate_left; (focus (first | exact Nat.lt_succ_self _ | ((repeat rw [World.size_alloc]); omega) | (simp; done) | (simp; omega) | omega))) | (refine Below.then' ?_ (by assumption) ?_; rotate_left; (focus (first | exact Nat.lt_succ_self _ | ((repeat rw [World.size_alloc]); omega) | (simp; done) | (simp; omega) | omega))) | fail)); (first | done | fail)))) w6.heap.size 1 (openM p d ep, ⟨some ⟨w3.heap.size, 0, none⟩, 16, A1, c1⟩) (by rfl) (row_at _ _ _ _ rfl) n6 HYl.out (by rw [HYl.out]; have := HPl.out; omega) (by have := HW6.out; rw [World.size_alloc]; omega) ?_; intro A7 c7 w7 hO7 hg7 _; have HO7 := Lib.hid hO7; have HG7 := Lib.hid hg7; clear hO7 hg7))
        have hc : Chg (fun k => (Value.slice A6 n6 c6).ownBlock = some k) w6 w7 := ((Chg.refl _ w6).alloc _).grown HG7.out (fun k hk => .inl hk)
        have hS : ∀ x, (∀ a, A6 = some a → ∀ k, MotB x k → k ≠ a.block) → ∀ k, MotB x k → ¬ (Value.slice A6 n6 c6).ownBlock = some k := fun x hx k hk he => by
          cases A6 with
          | none => cases he
          | some a => exact hx a rfl k hk (Option.some.inj he).symm
        have hML : ML w7 A7 (ys ++ [(openM p d ep, ⟨some ⟨w3.heap.size, 0, none⟩, 16, A1, c1⟩)]) := by
          obtain ⟨A', c', e, hs, _⟩ := HO7.out.form motC_size
          have e1 : A7 = A' := by injection e
          subst e1
          refine ⟨hs, fun x hx => ?_, fun x hx => ?_⟩
          · rcases List.mem_append.1 hx with hx | hx
            · exact (HYat.out x hx).1.1.chg hc (hS x (HYat.out x hx).1.2)
            · rw [List.mem_singleton] at hx; subst hx
              exact HMY.out.1.chg hc (hS _ HMY.out.2)
          · rcases List.mem_append.1 hx with hx | hx
            · exact (HYat.out x hx).2
            · rw [List.mem_singleton] at hx; subst hx
              exact HOkY.out
        have hBB : Below w.heap.size w w7 := Below.trans HB6.out (hc.toBelow (B := w.heap.size) (fun k hk => by
          cases A6 with
          | none => cases hk
          | some a =>
            have h1 := HA6.out a rfl
            have h2 : a.block = k := Option.some.inj hk
            have h3 := HVl.out
            omega) HB6.out.size)
        have HFin := Lib.hid (HEnd.out w7 A7 (n6 + 1) c7 _ hBB (by rw [List.length_append, HYl.out]; rfl) hML (by rw [if_pos HLn.out.symm, List.map_append, HYs2.out]; rfl) HO7.out.cap)
        clear hc hS hML hBB
        go_ret3
        exact HFin.out
end Go.Proofs.Ytnakkjgnjffkpaa
