/-
  What moot.Vote and moot.Finish answer; the first motion that is over.
-/
import Derived.Test.YtnakkjgnjffkpaaMoot2
namespace Go.Proofs.Ytnakkjgnjffkpaa
open Go.RowKit
set_option linter.unusedVariables false

theorem below_row' {w W : World} {g : Nat} {cs : Array Value} (h : Below w.heap.size w W) (hr : row w g = some cs) : row W g = some cs := (row_below h (row_lt hr)).trans hr
/-- A call that answers motions, and an error. -/
def RetL (w : World) (L : List Mot) (er : Int) (e : Ending) (w' : World) : Prop := ∃ A n c xs, e = .returned (.tuple #[.slice A n c, .int .i64 er]) ∧ xs.length = n ∧ ML w' A xs ∧ xs.map (·.1) = L ∧ (A = none → c = 0) ∧ Below w.heap.size w w'
theorem RetL.no {w w' : World} {er : Int} (hb : Below w.heap.size w w') : RetL w [] er (.returned (.tuple #[.slice none 0 0, .int .i64 er])) w' := ⟨none, 0, 0, [], rfl, rfl, ML.nil _ _, rfl, fun _ => rfl, hb⟩
theorem RetL.of_mo {w w' : World} {B g n cap : Nat} {xs : List (Mot × MotA)} {L : List Mot} {er : Int} (h : MO w' B g n cap xs) (hL : xs.map (·.1) = L) (hb : Below w.heap.size w w') : RetL w L er (.returned (.tuple #[.slice (some ⟨g, 0, none⟩) n cap, .int .i64 er])) w' := ⟨_, n, cap, xs, rfl, h.own.num.symm, h.ml, hL, (fun h => by cases h), hb⟩
def atL (L : List Mot) (i : Int) : Option Mot := if 0 ≤ i then L[i.toNat]? else none
def voteL (L : List Mot) (i mem : Int) (yes : Bool) : List Mot × Int := match atL L i with
  | none => ([], 230)
  | some m => if voteE m mem = 0 then (L.set i.toNat (voteM m mem yes), 0) else ([], voteE m mem)
def finE (m : Mot) : Int := if m.state = 2 then 0 else 291
def finM (m : Mot) (done : Bool) : Mot := { m with state := if done then 3 else 4 }
def finL (L : List Mot) (i : Int) (done : Bool) : List Mot × Int := match atL L i with
  | none => ([], 230)
  | some m => if finE m = 0 then (L.set i.toNat (finM m done), 0) else ([], finE m)
theorem atL_no {L : List Mot} {i : Int} (h : ¬ (0 ≤ i ∧ i < (L.length : Int))) : atL L i = none := by
  unfold atL
  split
  · exact List.getElem?_eq_none (by omega)
  · rfl
theorem atL_yes {xs : List (Mot × MotA)} {k : Nat} {x : Mot × MotA} (h : xs[k]? = some x) : atL (xs.map (·.1)) (k : Int) = some x.1 := by
  unfold atL
  rw [if_pos (by omega), Int.toNat_natCast, List.getElem?_map, h]; rfl
theorem map_set_new {xs : List (Mot × MotA)} {k : Nat} {x' : Mot × MotA} : (xs.set k x').map (·.1) = (xs.map (·.1)).set k x'.1 := by rw [List.map_set]
theorem voteM_ok {m : Mot} (h : m.Ok) (mem : Int) (yes : Bool) : (voteM m mem yes).Ok := by
  cases yes
  · exact ⟨h.account, h.what, h.dest, h.amount, h.ends, h.due, h.state, h.par, h.yes, setB_ok h.no.1 _, by show (setB m.no mem.toNat).length ≤ _; rw [setB_len]; exact h.no.2⟩
  · exact ⟨h.account, h.what, h.dest, h.amount, h.ends, h.due, h.state, h.par, ⟨setB_ok h.yes.1 _, by show (setB m.yes mem.toNat).length ≤ _; rw [setB_len]; exact h.yes.2⟩, h.no⟩
theorem state_ok {m : Mot} (h : m.Ok) {s : Int} (hs : i64ok s) : Mot.Ok { m with state := s } := ⟨h.account, h.what, h.dest, h.amount, h.ends, h.due, hs, h.par, h.yes, h.no⟩
theorem due_ok {m : Mot} (h : m.Ok) {s : Int} (hs : i64ok s) : Mot.Ok { m with due := s } := ⟨h.account, h.what, h.dest, h.amount, h.ends, hs, h.state, h.par, h.yes, h.no⟩
def Fin1Post (w : World) (g o : Nat) (m : Mot) (done : Bool) (e : Ending) (w' : World) : Prop :=
  e = .returned (.int .i64 (finE m)) ∧ ((finE m ≠ 0 ∧ w' = w) ∨ (finE m = 0 ∧ ((done = true ∧ w' = (w.setCell ⟨g, o + 30, none⟩ (.int .i64 4)).setCell ⟨g, o + 30, none⟩ (.int .i64 3)) ∨ (done = false ∧ w' = w.setCell ⟨g, o + 30, none⟩ (.int .i64 4)))))
theorem fin1_any (g o gd : Nat) (m : Mot) (done : Bool) (w : World) (k30 : w.cell? ⟨g, o + 30, none⟩ = some (.int .i64 m.state)) (hfz : w.frozen? ⟨g, o + 30, none⟩ = false) (hne : g ≠ gd) (rd : w.cell? ⟨gd, 0, none⟩ = some (.bool done)) :
    Calls Try.prog 111 #[.pointer (some ⟨g, o, none⟩), .pointer (some ⟨gd, 0, none⟩)] w (Fin1Post w g o m done) := by
  by_cases hs : m.state = 2
  · have HE : Hid (finE m = 0) := Lib.hid (by unfold finE; rw [if_pos hs])
    rw [hs] at k30
    have hne' : gd ≠ g := fun h => hne h.symm
    clear hs
    cases done
    · go_enter Try.func111, Try.ntmps111
      go_wp2_with fail
      go_ret
      exact ⟨by rw [HE.out]; rfl, .inr ⟨HE.out, .inr ⟨rfl, rfl⟩⟩⟩
    · go_enter Try.func111, Try.ntmps111
      go_wp2_with fail
      go_ret
      exact ⟨by rw [HE.out]; rfl, .inr ⟨HE.out, .inl ⟨rfl, rfl⟩⟩⟩
  · have HE : Hid (finE m = 291) := Lib.hid (by unfold finE; rw [if_neg hs])
    have e1 : (m.state != 2) = true := bne_iff_ne.2 hs
    clear hs
    go_enter Try.func111, Try.ntmps111
    go_wp2_with fail
    go_ret
    exact ⟨by rw [HE.out]; rfl, .inl ⟨by rw [HE.out]; decide, rfl⟩⟩
set_option maxRecDepth 100000 in
set_option maxHeartbeats 4000000 in
theorem changeV_any (A : Option Addr) (n c : Nat) (xs : List (Mot × MotA)) (i mem : Int) (yes : Bool) (gm gy : Nat) (hn : xs.length = n) (h0 : A = none → c = 0) (hm : n ≤ 1000) (hmem : i64ok mem) (w : World) (hX : ML w A xs) (hf : ∀ x ∈ xs, x.1.yes.length ≤ 1000000 ∧ x.1.no.length ≤ 1000000) (rm : row w gm = some #[.int .i64 mem]) (ry : row w gy = some #[.bool yes]) :
    Calls Try.prog 93 #[.slice A n c, .int .i64 i, .func (.func 94) #[] #[.pointer (some ⟨gm, 0, none⟩), .pointer (some ⟨gy, 0, none⟩)]] w (RetL w (voteL (xs.map (·.1)) i mem yes).1 (voteL (xs.map (·.1)) i mem yes).2) := by
  by_cases hr : 0 ≤ i ∧ i < (n : Int)
  · obtain ⟨k, rfl⟩ := Int.eq_ofNat_of_zero_le hr.1
    have hk : k < n := by omega
    have HB := Lib.hid (fun W => mwithin_any (k : Int) 0 ((n : Int) - 1) W)
    have hbt : betw (k : Int) 0 ((n : Int) - 1) = true := decide_eq_true (by omega)
    rw [hbt] at HB
    have E1 : IntKind.i64.wrap ((n : Int) - 1) = (n : Int) - 1 := IntWalk.i64_in _ (by omega)
    have z1 : (0 : Int) ≤ (k : Int) := by omega
    have z2 : (k : Int) < (n : Int) := by omega
    have HOwn := Lib.hid (mown_any A n c xs hn h0 (by omega) w hX hf)
    obtain ⟨⟨m0, a0⟩, hx0⟩ : ∃ x, xs[k]? = some x := ⟨_, List.getElem?_eq_getElem (by omega)⟩
    have hat0 := atL_yes hx0
    have hL0 : (xs.map (·.1))[k]? = some m0 := by rw [List.getElem?_map, hx0]; rfl
    have HL0 := Lib.hid hL0
    have hf0 := hf _ (List.mem_of_getElem? hx0)
    have HF0 := Lib.hid hf0
    have HNx := Lib.hid hn
    have HN : Hid (xs ≠ []) := Lib.hid fun h => by rw [h] at hx0; simp at hx0
    have HV : Hid (voteL (xs.map (·.1)) (k : Int) mem yes = if voteE m0 mem = 0 then ((xs.map (·.1)).set k (voteM m0 mem yes), 0) else ([], voteE m0 mem)) := Lib.hid (by unfold voteL; rw [hat0, Int.toNat_natCast])
    have RM := Lib.hid rm
    have RY := Lib.hid ry
    have HMem := Lib.hid hmem
    clear hX hf h0 hbt hr hat0 hx0 hL0 hf0 rm ry hmem hn
    go_enter Try.func93, Try.ntmps93
    go_wp2_with fail
    refine (HB.out _).mono ?_
    rintro e w1 ⟨rfl, rfl⟩
    go_wp2_with fail
    refine (HOwn.out).mono ?_
    rintro e w1 ⟨hb1, (⟨hnil, _⟩ | ⟨g, n', cap, ys, rfl, hMO, hys⟩)⟩
    · exact absurd (List.map_eq_nil_iff.1 hnil) HN.out
    have hn' : n' = n := by
      have h1 := hMO.own.num
      have h2 := congrArg List.length hys
      rw [List.length_map, List.length_map] at h2
      have h3 := HNx.out
      omega
    subst hn'
    obtain ⟨⟨m, a⟩, hx⟩ : ∃ x, ys[k]? = some x := ⟨_, List.getElem?_eq_getElem (by rw [← hMO.own.num]; exact hk)⟩
    have hmm : m = m0 := by
      have := HL0.out
      rw [← hys, List.getElem?_map, hx] at this
      exact Option.some.inj this
    subst hmm
    have HM := Lib.hid hMO
    have HYs := Lib.hid hys
    have HXk := Lib.hid hx
    have HB1 := Lib.hid hb1
    have hok := hMO.ok _ (List.mem_of_getElem? hx)
    have HOk := Lib.hid hok
    have HCl := Lib.hid (vote1_any g (k * 33) gm gy m a mem yes HMem.out w1 (hMO.own.cellAt motC_size hx (i := 30) rfl) (hMO.own.cellAt motC_size hx (i := 31) rfl) (hMO.own.cellAt motC_size hx (i := 32) rfl) (fun q => hMO.own.free q) hMO.own.inBlock.2 (below_row' hb1 RM.out) (below_row' hb1 RY.out) (hMO.at_ _ (List.mem_of_getElem? hx)).1 ⟨hok.yes.1, HF0.out.1⟩ ⟨hok.no.1, HF0.out.2⟩)
    clear hMO hys hx hb1 hok HOwn HB
    go_wp2_with fail
    refine (HCl.out).mono ?_
    rintro e w2 ⟨rfl, (⟨hne, hb2⟩ | ⟨he0, W, A2, c2, hb2, hA2, hcase⟩)⟩
    · have e1 : (voteE m mem != 0) = true := bne_iff_ne.2 hne
      have HE : Hid (voteL (xs.map (·.1)) (k : Int) mem yes = ([], voteE m mem)) := Lib.hid (by rw [HV.out, if_neg hne])
      have HB2 := Lib.hid (Below.then HB1.out hb2)
      clear hne hb2
      go_wp2_with fail
      go_ret2
      rw [HE.out]
      exact RetL.no HB2.out
    · have HE : Hid (voteL (xs.map (·.1)) (k : Int) mem yes = ((xs.map (·.1)).set k (voteM m mem yes), 0)) := Lib.hid (by rw [HV.out, if_pos he0])
      rw [he0]
      have HBW := Lib.hid (Below.then HB1.out hb2)
      have hMW := HM.out.stay hb2
      have hgW : g < w1.heap.size := HM.out.own.inBlock.2
      obtain ⟨ha, hab⟩ := hMW.at_ _ (List.mem_of_getElem? HXk.out)
      have HEnd : Hid (∃ ys', MO w2 w.heap.size g n' cap ys' ∧ ys'.map (·.1) = (xs.map (·.1)).set k (voteM m mem yes) ∧ Below w.heap.size w w2) := Lib.hid (by
        rcases hcase with ⟨rfl, hO, rfl⟩ | ⟨rfl, hO, rfl⟩
        · have hO' : OwnB W (.slice A2 (setB m.yes mem.toNat).length c2) (setB m.yes mem.toNat) := by rw [setB_len]; exact hO
          have fr := Fresh.of (W' := W) hO' hA2 hgW (Below.refl _ _)
          refine ⟨ys.set k ({ m with yes := setB m.yes mem.toNat }, ⟨A2, c2, a.a2, a.c2⟩), ?_, by rw [map_set_new, HYs.out]; rfl, Below.setCell HBW.out (p := ⟨g, k * 33 + 31, none⟩) HM.out.own.inBlock.1 _⟩
          have h := hMW.setAt (x' := ({ m with yes := setB m.yes mem.toNat }, ⟨A2, c2, a.a2, a.c2⟩)) HXk.out (i := 31) (by omega) (u := .slice A2 (setB m.yes mem.toNat).length c2) rfl ⟨⟨fr.bys, ha.no, fr.nil, ha.n2⟩, fun q hq => hq.elim (fun ⟨_, b, hb1, hb2⟩ => hb2 ▸ fr.far b hb1) (fun hq => hab q (.inr hq))⟩ (voteM_ok HOk.out mem true)
          rw [setB_len] at h
          exact h
        · have hO' : OwnB W (.slice A2 (setB m.no mem.toNat).length c2) (setB m.no mem.toNat) := by rw [setB_len]; exact hO
          have fr := Fresh.of (W' := W) hO' hA2 hgW (Below.refl _ _)
          refine ⟨ys.set k ({ m with no := setB m.no mem.toNat }, ⟨a.a1, a.c1, A2, c2⟩), ?_, by rw [map_set_new, HYs.out]; rfl, Below.setCell HBW.out (p := ⟨g, k * 33 + 32, none⟩) HM.out.own.inBlock.1 _⟩
          have h := hMW.setAt (x' := ({ m with no := setB m.no mem.toNat }, ⟨a.a1, a.c1, A2, c2⟩)) HXk.out (i := 32) (by omega) (u := .slice A2 (setB m.no mem.toNat).length c2) rfl ⟨⟨ha.yes, fr.bys, ha.n1, fr.nil⟩, fun q hq => hq.elim (fun hq => hab q (.inl hq)) (fun ⟨_, b, hb1, hb2⟩ => hb2 ▸ fr.far b hb1)⟩ (voteM_ok HOk.out mem false)
          rw [setB_len] at h
          exact h)
      clear hcase hMW hgW ha hab hb2 hA2 he0
      go_wp2_with fail
      go_ret2
      obtain ⟨ys', h1, h2, h3⟩ := HEnd.out
      rw [HE.out]
      exact RetL.of_mo h1 h2 h3
  · have HB := Lib.hid (fun W => mwithin_any i 0 ((n : Int) - 1) W)
    have hbt : betw i 0 ((n : Int) - 1) = false := decide_eq_false (by omega)
    rw [hbt] at HB
    have E1 : IntKind.i64.wrap ((n : Int) - 1) = (n : Int) - 1 := IntWalk.i64_in _ (by omega)
    have HV : Hid (voteL (xs.map (·.1)) i mem yes = ([], 230)) := Lib.hid (by unfold voteL; rw [atL_no (by rw [List.length_map, hn]; exact hr)])
    clear hX hf h0 hbt hr hn
    go_enter Try.func93, Try.ntmps93
    go_wp2_with fail
    refine (HB.out _).mono ?_
    rintro e w1 ⟨rfl, rfl⟩
    go_wp2_with fail
    go_ret2
    rw [HV.out]
    exact RetL.no (Below.refl _ _)
set_option maxRecDepth 100000 in
theorem mvote_any (A : Option Addr) (n c : Nat) (xs : List (Mot × MotA)) (i mem : Int) (yes : Bool) (hn : xs.length = n) (h0 : A = none → c = 0) (hm : n ≤ 1000) (hmem : i64ok mem) (w : World) (hX : ML w A xs) (hf : ∀ x ∈ xs, x.1.yes.length ≤ 1000000 ∧ x.1.no.length ≤ 1000000) :
    Calls Try.prog 39 #[.slice A n c, .int .i64 i, .int .i64 mem, .bool yes] w (RetL w (voteL (xs.map (·.1)) i mem yes).1 (voteL (xs.map (·.1)) i mem yes).2) := by
  have rm : row ((w.alloc (.cells #[.int .i64 mem] 3)).alloc (.cells #[.bool yes] 4)) w.heap.size = some #[.int .i64 mem] := (by (repeat (first | assumption | (refine row_at _ _ _ _ ?_; first | rfl | (simp only [World.size_alloc]; done) | (simp only [World.size_alloc]; omega)) | (refine (row_past _ _ _ ?_).trans ?_; (focus (first | exact Nat.lt_succ_self _ | ((repeat rw [World.size_alloc]); omega) | (simp; done) | (simp; omega) | omega))) | rw [row_drewN] | rw [row_drew])); (first | done | fail))
  have ry : row ((w.alloc (.cells #[.int .i64 mem] 3)).alloc (.cells #[.bool yes] 4)) (w.heap.size + 1) = some #[.bool yes] := (by (repeat (first | assumption | (refine row_at _ _ _ _ ?_; first | rfl | (simp only [World.size_alloc]; done) | (simp only [World.size_alloc]; omega)) | (refine (row_past _ _ _ ?_).trans ?_; (focus (first | exact Nat.lt_succ_self _ | ((repeat rw [World.size_alloc]); omega) | (simp; done) | (simp; omega) | omega))) | rw [row_drewN] | rw [row_drew])); (first | done | fail))
  have hb : Below w.heap.size w ((w.alloc (.cells #[.int .i64 mem] 3)).alloc (.cells #[.bool yes] 4)) := (by (repeat (first | exact Below.refl _ _ | assumption | (refine Below.allocT ?_ _) | refine Below.drew ?_ | refine below_drewN ?_ _ | (refine Below.then ?_ (by assumption)) | (refine Below.setRow ?_ ?_ _; rotate_left; (focus (first | exact Nat.lt_succ_self _ | ((repeat rw [World.size_alloc]); omega) | (simp; done) | (simp; omega) | omega))) | (refine Below.setCell ?_ ?_ _; rotate_left; (focus (first | exact Nat.lt_succ_self _ | ((repeat rw [World.size_alloc]); omega) | (simp; done) | (simp; omega) | omega))) | (refine Below.then' ?_ (by assumption) ?_; rotate_left; (focus (first | exact Nat.lt_succ_self _ | ((repeat rw [World.size_alloc]); omega) | (simp; done) | (simp; omega) | omega))) | fail)); (first | done | fail))
  have HC := Lib.hid (changeV_any A n c xs i mem yes w.heap.size (w.heap.size + 1) hn h0 hm hmem _ (hX.stay hb) hf rm ry)
  have HB := Lib.hid hb
  clear hX hf h0 rm ry hb hn
  go_enter Try.func39, Try.ntmps39
  go_wp2_with fail
  refine (HC.out).mono ?_
  rintro e w1 ⟨A1, n1, c1, ys, rfl, q1, q2, q3, q4, q5⟩
  have HEnd : Hid (RetL w (voteL (xs.map (·.1)) i mem yes).1 (voteL (xs.map (·.1)) i mem yes).2 (.returned (.tuple #[.slice A1 n1 c1, .int .i64 (voteL (xs.map (·.1)) i mem yes).2])) w1) := Lib.hid ⟨A1, n1, c1, ys, rfl, q1, q2, q3, q4, Below.then HB.out q5⟩
  clear q1 q2 q3 q4 q5
  go_wp2_with fail
  go_ret2
  exact HEnd.out
set_option maxRecDepth 100000 in
set_option maxHeartbeats 4000000 in
theorem changeF_any (A : Option Addr) (n c : Nat) (xs : List (Mot × MotA)) (i : Int) (done : Bool) (gd : Nat) (hn : xs.length = n) (h0 : A = none → c = 0) (hm : n ≤ 1000) (w : World) (hX : ML w A xs) (hf : ∀ x ∈ xs, x.1.yes.length ≤ 1000000 ∧ x.1.no.length ≤ 1000000) (rd : row w gd = some #[.bool done]) :
    Calls Try.prog 93 #[.slice A n c, .int .i64 i, .func (.func 111) #[] #[.pointer (some ⟨gd, 0, none⟩)]] w (RetL w (finL (xs.map (·.1)) i done).1 (finL (xs.map (·.1)) i done).2) := by
  by_cases hr : 0 ≤ i ∧ i < (n : Int)
  · obtain ⟨k, rfl⟩ := Int.eq_ofNat_of_zero_le hr.1
    have hk : k < n := by omega
    have HB := Lib.hid (fun W => mwithin_any (k : Int) 0 ((n : Int) - 1) W)
    have hbt : betw (k : Int) 0 ((n : Int) - 1) = true := decide_eq_true (by omega)
    rw [hbt] at HB
    have E1 : IntKind.i64.wrap ((n : Int) - 1) = (n : Int) - 1 := IntWalk.i64_in _ (by omega)
    have z1 : (0 : Int) ≤ (k : Int) := by omega
    have z2 : (k : Int) < (n : Int) := by omega
    have HOwn := Lib.hid (mown_any A n c xs hn h0 (by omega) w hX hf)
    obtain ⟨⟨m0, a0⟩, hx0⟩ : ∃ x, xs[k]? = some x := ⟨_, List.getElem?_eq_getElem (by omega)⟩
    have hat0 := atL_yes hx0
    have hL0 : (xs.map (·.1))[k]? = some m0 := by rw [List.getElem?_map, hx0]; rfl
    have HL0 := Lib.hid hL0
    have hf0 := hf _ (List.mem_of_getElem? hx0)
    have HF0 := Lib.hid hf0
    have HNx := Lib.hid hn
    have HN : Hid (xs ≠ []) := Lib.hid fun h => by rw [h] at hx0; simp at hx0
    have HV : Hid (finL (xs.map (·.1)) (k : Int) done = if finE m0 = 0 then ((xs.map (·.1)).set k (finM m0 done), 0) else ([], finE m0)) := Lib.hid (by unfold finL; rw [hat0, Int.toNat_natCast])
    have RD := Lib.hid rd
    clear hX hf h0 hbt hr hat0 hx0 hL0 hf0 rd hn
    go_enter Try.func93, Try.ntmps93
    go_wp2_with fail
    refine (HB.out _).mono ?_
    rintro e w1 ⟨rfl, rfl⟩
    go_wp2_with fail
    refine (HOwn.out).mono ?_
    rintro e w1 ⟨hb1, (⟨hnil, _⟩ | ⟨g, n', cap, ys, rfl, hMO, hys⟩)⟩
    · exact absurd (List.map_eq_nil_iff.1 hnil) HN.out
    have hn' : n' = n := by
      have h1 := hMO.own.num
      have h2 := congrArg List.length hys
      rw [List.length_map, List.length_map] at h2
      have h3 := HNx.out
      omega
    subst hn'
    obtain ⟨⟨m, a⟩, hx⟩ : ∃ x, ys[k]? = some x := ⟨_, List.getElem?_eq_getElem (by rw [← hMO.own.num]; exact hk)⟩
    have hmm : m = m0 := by
      have := HL0.out
      rw [← hys, List.getElem?_map, hx] at this
      exact Option.some.inj this
    subst hmm
    have HM := Lib.hid hMO
    have HYs := Lib.hid hys
    have HXk := Lib.hid hx
    have HB1 := Lib.hid hb1
    have hok := hMO.ok _ (List.mem_of_getElem? hx)
    have HOk := Lib.hid hok
    have HCl := Lib.hid (fin1_any g (k * 33) gd m done w1 (hMO.own.cellAt motC_size hx (i := 30) rfl) (hMO.own.free _) (by have h1 := hMO.own.inBlock.1; have h2 := row_lt RD.out; omega) (row_cell (below_row' hb1 RD.out) 0))
    clear hMO hys hx hb1 hok HOwn HB
    go_wp2_with fail
    refine (HCl.out).mono ?_
    rintro e w2 ⟨rfl, (⟨hne, rfl⟩ | ⟨he0, hcase⟩)⟩
    · have e1 : (finE m != 0) = true := bne_iff_ne.2 hne
      have HE : Hid (finL (xs.map (·.1)) (k : Int) done = ([], finE m)) := Lib.hid (by rw [HV.out, if_neg hne])
      clear hne
      go_wp2_with fail
      go_ret2
      rw [HE.out]
      exact RetL.no HB1.out
    · have HE : Hid (finL (xs.map (·.1)) (k : Int) done = ((xs.map (·.1)).set k (finM m done), 0)) := Lib.hid (by rw [HV.out, if_pos he0])
      rw [he0]
      obtain ⟨ha, hab⟩ := HM.out.at_ _ (List.mem_of_getElem? HXk.out)
      have hkl : k < ys.length := by rw [← HM.out.own.num]; exact hk
      have HEnd : Hid (∃ ys', MO w2 w.heap.size g n' cap ys' ∧ ys'.map (·.1) = (xs.map (·.1)).set k (finM m done) ∧ Below w.heap.size w w2) := Lib.hid (by
        have h4 := HM.out.setAt (x' := ({ m with state := 4 }, a)) HXk.out (i := 30) (by omega) (u := .int .i64 4) rfl ⟨⟨ha.yes, ha.no, ha.n1, ha.n2⟩, hab⟩ (state_ok HOk.out (by unfold i64ok; omega))
        have hb4 : Below w.heap.size w (w1.setCell ⟨g, k * 33 + 30, none⟩ (.int .i64 4)) := Below.setCell HB1.out (p := ⟨g, k * 33 + 30, none⟩) HM.out.own.inBlock.1 _
        rcases hcase with ⟨rfl, rfl⟩ | ⟨rfl, rfl⟩
        · have hx4 : (ys.set k ({ m with state := 4 }, a))[k]? = some ({ m with state := 4 }, a) := by rw [List.getElem?_set]; simp [hkl]
          obtain ⟨ha4, hab4⟩ := h4.at_ _ (List.mem_of_getElem? hx4)
          have h5 := h4.setAt (x' := ({ m with state := 3 }, a)) hx4 (i := 30) (by omega) (u := .int .i64 3) rfl ⟨⟨ha4.yes, ha4.no, ha4.n1, ha4.n2⟩, hab4⟩ (state_ok HOk.out (by unfold i64ok; omega))
          rw [List.set_set] at h5
          exact ⟨_, h5, by rw [map_set_new, HYs.out]; rfl, Below.setCell hb4 (p := ⟨g, k * 33 + 30, none⟩) HM.out.own.inBlock.1 _⟩
        · exact ⟨_, h4, by rw [map_set_new, HYs.out]; rfl, hb4⟩)
      clear hcase ha hab he0
      go_wp2_with fail
      go_ret2
      obtain ⟨ys', h1, h2, h3⟩ := HEnd.out
      rw [HE.out]
      exact RetL.of_mo h1 h2 h3
  · have HB := Lib.hid (fun W => mwithin_any i 0 ((n : Int) - 1) W)
    have hbt : betw i 0 ((n : Int) - 1) = false := decide_eq_false (by omega)
    rw [hbt] at HB
    have E1 : IntKind.i64.wrap ((n : Int) - 1) = (n : Int) - 1 := IntWalk.i64_in _ (by omega)
    have HV : Hid (finL (xs.map (·.1)) i done = ([], 230)) := Lib.hid (by unfold finL; rw [atL_no (by rw [List.length_map, hn]; exact hr)])
    clear hX hf h0 hbt hr hn
    go_enter Try.func93, Try.ntmps93
    go_wp2_with fail
    refine (HB.out _).mono ?_
    rintro e w1 ⟨rfl, rfl⟩
    go_wp2_with fail
    go_ret2
    rw [HV.out]
    exact RetL.no (Below.refl _ _)
set_option maxRecDepth 100000 in
theorem mfinish_any (A : Option Addr) (n c : Nat) (xs : List (Mot × MotA)) (i : Int) (done : Bool) (hn : xs.length = n) (h0 : A = none → c = 0) (hm : n ≤ 1000) (w : World) (hX : ML w A xs) (hf : ∀ x ∈ xs, x.1.yes.length ≤ 1000000 ∧ x.1.no.length ≤ 1000000) :
    Calls Try.prog 47 #[.slice A n c, .int .i64 i, .bool done] w (RetL w (finL (xs.map (·.1)) i done).1 (finL (xs.map (·.1)) i done).2) := by
  have rd : row (w.alloc (.cells #[.bool done] 4)) w.heap.size = some #[.bool done] := (by (repeat (first | assumption | (refine row_at _ _ _ _ ?_; first | rfl | (simp only [World.size_alloc]; done) | (simp only [World.size_alloc]; omega)) | (refine (row_past _ _ _ ?_).trans ?_; (focus (first | exact Nat.lt_succ_self _ | ((repeat rw [World.size_alloc]); omega) | (simp; done) | (simp; omega) | omega))) | rw [row_drewN] | rw [row_drew])); (first | done | fail))
  have hb : Below w.heap.size w (w.alloc (.cells #[.bool done] 4)) := (by (repeat (first | exact Below.refl _ _ | assumption | (refine Below.allocT ?_ _) | refine Below.drew ?_ | refine below_drewN ?_ _ | (refine Below.then ?_ (by assumption)) | (refine Below.setRow ?_ ?_ _; rotate_left; (focus (first | exact Nat.lt_succ_self _ | ((repeat rw [World.size_alloc]); omega) | (simp; done) | (simp; omega) | omega))) | (refine Below.setCell ?_ ?_ _; rotate_left; (focus (first | exact Nat.lt_succ_self _ | ((repeat rw [World.size_alloc]); omega) | (simp; done) | (simp; omega) | omega))) | (refine Below.then' ?_ (by assumption) ?_; rotate_left; (focus (first | exact Nat.lt_succ_self _ | ((repeat rw [World.size_alloc]); omega) | (simp; done) | (simp; omega) | omega))) | fail)); (first | done | fail))
  have HC := Lib.hid (changeF_any A n c xs i done w.heap.size hn h0 hm _ (hX.stay hb) hf rd)
  have HB := Lib.hid hb
  clear hX hf h0 rd hb hn
  go_enter Try.func47, Try.ntmps47
  go_wp2_with fail
  refine (HC.out).mono ?_
  rintro e w1 ⟨A1, n1, c1, ys, rfl, q1, q2, q3, q4, q5⟩
  have HEnd : Hid (RetL w (finL (xs.map (·.1)) i done).1 (finL (xs.map (·.1)) i done).2 (.returned (.tuple #[.slice A1 n1 c1, .int .i64 (finL (xs.map (·.1)) i done).2])) w1) := Lib.hid ⟨A1, n1, c1, ys, rfl, q1, q2, q3, q4, Below.then HB.out q5⟩
  clear q1 q2 q3 q4 q5
  go_wp2_with fail
  go_ret2
  exact HEnd.out
end Go.Proofs.Ytnakkjgnjffkpaa
