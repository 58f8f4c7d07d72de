/-
  The reference's digits in memory; what bullionref01.trim, at and Of answer.
-/
import Derived.Test.YtnakkjgnjffkpaaMem
import Derived.Test.YtnakkjgnjffkpaaDg
namespace Go.Proofs.Ytnakkjgnjffkpaa
open Go.RowKit
set_option linter.unusedVariables false

/-- A slice that reads as the numbers f 0 .. f (n - 1), from the head of a block on. -/
def Ints (w : World) (A : Option Addr) (n : Nat) (f : Nat → Nat) : Prop :=
  0 < n → ∃ g, A = some ⟨g, 0, none⟩ ∧ g < w.heap.size ∧ ∀ i, i < n → w.cell? ⟨g, i, none⟩ = some (.int .i64 ((f i : Nat) : Int))
theorem Ints.below {w w' : World} {A : Option Addr} {n : Nat} {f : Nat → Nat} {B : Nat} (h : Ints w A n f) (hb : Below B w w') (hB : w.heap.size ≤ B) : Ints w' A n f := fun hn => by
  obtain ⟨g, e, hg, hc⟩ := h hn
  refine ⟨g, e, Nat.lt_of_lt_of_le hg hb.size, fun i hi => ?_⟩
  rw [hb.cell (p := ⟨g, i, none⟩) (Nat.lt_of_lt_of_le hg hB)]
  exact hc i hi
theorem Ints.alloc {w : World} {A : Option Addr} {n : Nat} {f : Nat → Nat} (h : Ints w A n f) (o : Obj) : Ints (w.alloc o) A n f :=
  h.below ((Below.refl _ _).alloc (Nat.le_refl _) o) (Nat.le_refl _)
/-- A whole number in memory: its digits. -/
def NatV (w : World) (A : Option Addr) (n : Nat) (a : Nat) : Prop := n = (dg a).length ∧ Ints w A n (dgt a)
theorem NatV.below {w w' : World} {A : Option Addr} {n a : Nat} {B : Nat} (h : NatV w A n a) (hb : Below B w w') (hB : w.heap.size ≤ B) : NatV w' A n a := ⟨h.1, h.2.below hb hB⟩
theorem NatV.stay {w w' : World} {A : Option Addr} {n a : Nat} (h : NatV w A n a) (hb : Below w.heap.size w w') : NatV w' A n a := ⟨h.1, h.2.below hb (Nat.le_refl _)⟩
theorem NatV.alloc {w : World} {A : Option Addr} {n a : Nat} (h : NatV w A n a) (o : Obj) : NatV (w.alloc o) A n a := ⟨h.1, h.2.alloc o⟩
theorem NatV.zero (w : World) (A : Option Addr) : NatV w A 0 0 := ⟨rfl, fun h => absurd h (by omega)⟩

set_option maxHeartbeats 400000 in
theorem trim_core (A : Option Addr) (f : Nat → Nat) (n m : Nat) (c : Nat) (w : World) (hI : Ints w A n f) (hn : n ≤ c) (hc : c ≤ 9223372036854775807)
    (hm : Hid (∀ k, k ≤ n → (∀ i, k ≤ i → i < n → f i = 0) → (k = 0 ∨ f (k - 1) ≠ 0) → k = m)) :
    Calls Try.prog 161 #[.slice A n c] w fun e w' => e = .returned (.agg #[.slice A m c]) ∧ Below w.heap.size w w' := by
  go_enter Try.func161, Try.ntmps161
  go_wp2_with fail
  go_loop [3] (fun t => ∃ k : Nat, k ≤ n ∧ t = .int .i64 k ∧ Hid (∀ i, k ≤ i → i < n → f i = 0)) (fun t => (intOf t).toNat)
  case atStart => exact ⟨n, by omega, rfl, Lib.hid (by omega)⟩
  case round =>
    obtain ⟨k, hk, rfl, hz⟩ := hrel
    by_cases hk0 : 0 < k
    · obtain ⟨g, rfl, hg, hcell⟩ := hI (by omega)
      have hck := (hcell (k - 1) (by omega))
      clear hcell hI
      have e1 : ((k : Int) - 1).toNat = k - 1 := by omega
      by_cases hd : f (k - 1) = 0
      · rw [hd] at hck
        have HZ : Hid (∀ i, k - 1 ≤ i → i < n → f i = 0) := Lib.hid (fun i h1 h2 => by
          by_cases h : i = k - 1
          · subst h; exact hd
          · exact hz.out i (by omega) h2)
        have HD := Lib.hid hd
        clear hd
        go_wp2_with fail
        go_round
        case rel => exact ⟨k - 1, by omega, by go_num, HZ⟩
        case measure => simp [intOf]; omega
      · have hm' := hm.out k hk hz.out (.inr hd)
        have hd' : ((f (k - 1) : Int) == 0) = false := by simp; omega
        clear hm hd
        subst hm'
        go_wp2_with fail
        exact bodyPost_ret (v := .agg #[.slice (some ⟨g, 0, none⟩) k c]) (by simp [results, Try.results161, go_sem]) rfl ⟨rfl, (by (repeat (first | exact Below.refl _ _ | assumption | (refine Below.allocT ?_ _) | refine Below.drew ?_ | refine below_drewN ?_ _ | (refine Below.then ?_ (by assumption)) | (refine Below.setRow ?_ ?_ _; rotate_left; (focus (first | exact Nat.lt_succ_self _ | ((repeat rw [World.size_alloc]); omega) | (simp; done) | (simp; omega) | omega))) | (refine Below.setCell ?_ ?_ _; rotate_left; (focus (first | exact Nat.lt_succ_self _ | ((repeat rw [World.size_alloc]); omega) | (simp; done) | (simp; omega) | omega))) | (refine Below.then' ?_ (by assumption) ?_; rotate_left; (focus (first | exact Nat.lt_succ_self _ | ((repeat rw [World.size_alloc]); omega) | (simp; done) | (simp; omega) | omega))) | fail)); (first | done | fail))⟩
    · obtain rfl : k = 0 := by omega
      have hm' := hm.out 0 hk hz.out (.inl rfl)
      subst hm'
      clear hm
      go_wp2_with fail
      exact bodyPost_ret (v := .agg #[.slice A (0 : Nat) c]) (by simp [results, Try.results161, go_sem]) rfl ⟨rfl, (by (repeat (first | exact Below.refl _ _ | assumption | (refine Below.allocT ?_ _) | refine Below.drew ?_ | refine below_drewN ?_ _ | (refine Below.then ?_ (by assumption)) | (refine Below.setRow ?_ ?_ _; rotate_left; (focus (first | exact Nat.lt_succ_self _ | ((repeat rw [World.size_alloc]); omega) | (simp; done) | (simp; omega) | omega))) | (refine Below.setCell ?_ ?_ _; rotate_left; (focus (first | exact Nat.lt_succ_self _ | ((repeat rw [World.size_alloc]); omega) | (simp; done) | (simp; omega) | omega))) | (refine Below.then' ?_ (by assumption) ?_; rotate_left; (focus (first | exact Nat.lt_succ_self _ | ((repeat rw [World.size_alloc]); omega) | (simp; done) | (simp; omega) | omega))) | fail)); (first | done | fail))⟩
theorem trim_any (A : Option Addr) (l : List Nat) (n c : Nat) (w : World) (hl : low l) (hln : l.length = n) (hI : Ints w A n (fun i => l.getD i 0)) (hn : n ≤ c) (hc : c ≤ 9223372036854775807) :
    Calls Try.prog 161 #[.slice A n c] w fun e w' => e = .returned (.agg #[.slice A (dg (val l)).length c]) ∧ Below w.heap.size w w' ∧ NatV w' A (dg (val l)).length (val l) := by
  subst hln
  refine (trim_core A (fun i => l.getD i 0) l.length (dg (val l)).length c w hI hn hc (Lib.hid fun k hk hz ht => ?_)).mono fun e w' ⟨he, hb⟩ => ⟨he, hb, rfl, ?_⟩
  · have := trim_eq hl hk hz ht
    rw [← this]; simp; omega
  · refine Ints.below (w := w) (fun hp => ?_) hb (Nat.le_refl _)
    have hle : (dg (val l)).length ≤ l.length := len_le_of_lt (val_lt hl)
    obtain ⟨g, e1, hg, hcell⟩ := hI (by omega)
    refine ⟨g, e1, hg, fun i hi => ?_⟩
    rw [hcell i (by omega)]
    congr 3
    have := dgt_val hl i
    rw [this]
/-! ### Slices of ints that the call itself made -/
theorem int_info : (Try.prog.info? 3).map (fun i => (i.zero, i.size, i.bytes)) = some (some (.int .i64 0), 1, 8) := by kernel_rfl
theorem ints_under : Try.prog.underlying 34 = some (.slice 3) := by kernel_rfl
def OwnI (w : World) (B : Nat) (v : Value) (ds : List Nat) : Prop := w.ownsRow B 3 1 v ds.length (ds.map fun d => .int .i64 ((d : Nat) : Int))
theorem OwnI.nil (w : World) (B : Nat) : OwnI w B (.slice none 0 0) [] := ⟨rfl, .inl ⟨rfl, rfl⟩⟩
theorem OwnI.alloc {w : World} {B : Nat} {v : Value} {ds : List Nat} (h : OwnI w B v ds) (o : Obj) : OwnI (w.alloc o) B v ds := World.ownsRow.alloc h o
theorem OwnI.block {w : World} {B : Nat} {v : Value} {ds : List Nat} (h : OwnI w B v ds) : ∀ k, v.ownBlock = some k → B ≤ k := by
  rcases h.2 with ⟨rfl, _⟩ | ⟨g, cap, cur, rfl, hb, _⟩
  · intro k hk; cases hk
  · intro k hk; cases hk; exact hb
theorem OwnI.high {w : World} {B n c : Nat} {A : Option Addr} {ds : List Nat} (h : OwnI w B (.slice A n c) ds) : ∀ x, A = some x → B ≤ x.block := by
  rintro x rfl; exact h.block x.block rfl
theorem OwnI.form {w : World} {B : Nat} {v : Value} {ds : List Nat} (h : OwnI w B v ds) : ∃ A c, v = .slice A ds.length c ∧ ds.length ≤ c ∧ c ≤ maxLen ∧ Ints w A ds.length (fun i => ds.getD i 0) := by
  have h0 := h
  rcases h.2 with ⟨rfl, h1⟩ | ⟨g, cap, cur, rfl, hb, hh, hc, hm, hs, ht⟩
  · exact ⟨none, 0, by rw [h1], by omega, by unfold maxLen; omega, fun hp => by omega⟩
  · refine ⟨_, cap, rfl, hc, hm, fun hp => ⟨g, rfl, ?_, fun i hi => ?_⟩⟩
    · rcases Nat.lt_or_ge g w.heap.size with hlt | hge
      · exact hlt
      · rw [Array.getElem?_eq_none hge] at hh; cases hh
    · rw [cell_of_row w g i cur _ _ hh]
      have e1 : (cur.toList.take (ds.length * 1))[i]? = cur.toList[i]? := List.getElem?_take_of_lt (by omega)
      rw [ht] at e1
      rw [← Array.getElem?_toList, ← e1]
      simp [hi]
theorem OwnI.below {w w' : World} {B B' : Nat} {v : Value} {ds : List Nat} (h : OwnI w B v ds) (hb : Below B' w w') (hB : w.heap.size ≤ B') : OwnI w' B v ds := by
  rcases h with ⟨h1, ⟨rfl, h2⟩ | ⟨g, cap, cur, rfl, hbb, hh, hr⟩⟩
  · exact ⟨h1, .inl ⟨rfl, h2⟩⟩
  · refine ⟨h1, .inr ⟨g, cap, cur, rfl, hbb, ?_, hr⟩⟩
    rw [hb.block g (Nat.lt_of_lt_of_le ?_ hB)]
    · exact hh
    · rcases Nat.lt_or_ge g w.heap.size with hlt | hge
      · exact hlt
      · rw [Array.getElem?_eq_none hge] at hh; cases hh
theorem OwnI.far {w : World} {B : Nat} {v : Value} {ds : List Nat} (h : OwnI w B v ds) {p : Addr} (hp : p.block < B) (u : Value) : OwnI (w.setCell p u) B v ds := by
  rcases h with ⟨h1, ⟨rfl, h2⟩ | ⟨g, cap, cur, rfl, hbb, hh, hr⟩⟩
  · exact ⟨h1, .inl ⟨rfl, h2⟩⟩
  · refine ⟨h1, .inr ⟨g, cap, cur, rfl, hbb, ?_, hr⟩⟩
    rw [Below.heap_setCell w p u g (by omega)]
    exact hh
theorem wpList_app_int {w : World} {ops : Array Oper} {rest : List Oper} {o : Oper} {a : Act} {Q : Exit → Act → World → Prop} (hgd : o.guard = none) (s x : Operand)
    (ho : o.op = .call { callee := .builtin .append, args := #[s, x], argTypes := #[34, 34] })
    (B : Nat) (v : Value) (ds : List Nat) (y : Nat) (b c : Nat) (hs : a.eval s = v) (hx : a.eval x = .slice (some ⟨b, 0, none⟩) 1 c) (hown : OwnI w B v ds)
    (hc : w.cell? ⟨b, 0, none⟩ = some (.int .i64 ((y : Nat) : Int))) (hlen : ds.length ≤ 1000000) (hB : B ≤ w.heap.size)
    (h : ∀ v' w', OwnI w' B v' (ds ++ [y]) → w.grownBy w' v.ownBlock → wpList Try.prog ops Q rest (a.put o.dst v') w') : wpList Try.prog ops Q (o :: rest) a w := by
  obtain ⟨i0, hi, hz0, hz1, hz2⟩ := info_parts int_info
  refine wpList_append_own _ hgd s x 34 ho B 3 i0 (.int .i64 0) 1 8 ints_under hi hz0 hz1 hz2 rfl (by decide) v ds.length _ hs hown ⟨b, 0, none⟩ 1 c [.int .i64 ((y : Nat) : Int)] hx rfl ?_ ?_ (by unfold maxLen; omega) (by omega) hB ?_
  · intro j u hj
    cases j with
    | zero => simp at hj; subst hj; simpa [Addr.add] using hc
    | succ j => simp at hj
  · intro u hu; simp at hu; subst hu; rfl
  · intro v' w' h1 h2 _
    refine h v' w' ?_ h2
    unfold OwnI
    simpa using h1
theorem OwnI.drewN {w : World} {B : Nat} {v : Value} {ds : List Nat} (h : OwnI w B v ds) (k : Nat) : OwnI (w.drewN k) B v ds := h
/-- 'd = append(d, z)', d the call's own: behind the one-cell block that holds z. -/
theorem wpList_app {X : World} {ops : Array Oper} {rest : List Oper} {o : Oper} {a : Act} {Q : Exit → Act → World → Prop} (hgd : o.guard = none) (s x : Operand)
    (ho : o.op = .call { callee := .builtin .append, args := #[s, x], argTypes := #[34, 34] })
    (B : Nat) (v : Value) (ds : List Nat) (z : Int) (y : Nat) (hs : a.eval s = v) (hx : a.eval x = .slice (some ⟨X.heap.size, 0, none⟩) 1 1) (hown : OwnI X B v ds)
    (hy : z = ((y : Nat) : Int)) (hlen : ds.length ≤ 1000000) (hB : B ≤ X.heap.size)
    (h : ∀ v' w', OwnI w' B v' (ds ++ [y]) → (∀ C u, Below C u X → C ≤ B → Below C u w') → wpList Try.prog ops Q rest (a.put o.dst v') w') : wpList Try.prog ops Q (o :: rest) a (X.alloc (.cells #[.int .i64 z] 3)) := by
  subst hy
  refine wpList_app_int hgd s x ho B v ds y X.heap.size 1 hs hx (hown.alloc _) (World.cell?_alloc_new _ _ _ _) hlen (by rw [World.size_alloc]; omega) fun v' w' h1 h2 => h v' w' h1 fun C u hb hC => ?_
  exact (hb.alloc (by omega) _).grown h2 (by rw [World.size_alloc]; omega) (fun k hk => Nat.le_trans hC (hown.block k hk))
/-- What a function answers that makes a whole number. -/
def RetNat (w : World) (a : Nat) (e : Ending) (w' : World) : Prop := ∃ A c, e = .returned (.agg #[.slice A (dg a).length c]) ∧ NatV w' A (dg a).length a ∧ Below w.heap.size w w' ∧ ∀ x, A = some x → w.heap.size ≤ x.block
theorem OwnI.nat {w : World} {B : Nat} {v : Value} {ds : List Nat} {a : Nat} (h : OwnI w B v ds) (hd : ds = dg a) : ∃ A c, v = .slice A (dg a).length c ∧ NatV w A (dg a).length a := by
  subst hd
  obtain ⟨A, c, e, _, _, hI⟩ := h.form
  refine ⟨A, c, e, rfl, ?_⟩
  have : (fun i => (dg a).getD i 0) = dgt a := funext fun i => dg_getD a i
  rwa [this] at hI
set_option maxHeartbeats 400000 in
theorem ofn_any (a : Nat) (ha : a < 18446744073709551616) (w : World) : Calls Try.prog 144 #[.int .u64 a] w (RetNat w a) := by
  have h20 := len_u64 ha
  go_enter Try.func144, Try.ntmps144
  go_wp2_with fail
  go_loopw [0, 3] (fun x v wr => ∃ (y : Nat) (ds : List Nat), y ≤ a ∧ x = .int .u64 y ∧ OwnI wr (w.heap.size + 1) v ds ∧ Hid (dg a = ds ++ dg y) ∧ Below (w.heap.size + 1) (w.alloc (.cells #[.slice none 0 0] 190)) wr) (fun x _ _ => (intOf x).toNat)
  case atStart => exact ⟨a, [], by omega, rfl, OwnI.nil _ _, Lib.hid (by simp), Below.refl _ _⟩
  case round =>
    obtain ⟨y, ds, hy, rfl, hown, hds, hBr⟩ := hrel
    by_cases h0 : 0 < y
    · have hz := hBr.size
      simp at hz
      have hlen : ds.length ≤ 20 := by
        have := congrArg List.length hds.out
        simp at this; omega
      go_wp2_with (at_builtin; refine wpList_app rfl _ _ rfl (w.heap.size + 1) _ ds _ (y % 10) rfl rfl hown ?_ ?_ ?_ ?_; (focus (simp; done)); (focus omega); (focus omega); intro v' w' h1 h2)
      refine ⟨⟨y / 10, ds ++ [y % 10], by omega, by go_num, h1, Lib.hid ?_, h2 _ _ hBr (Nat.le_refl _)⟩, by simp [intOf]; omega⟩
      rw [hds.out, dg_pos h0]; simp
    · obtain rfl : y = 0 := by omega
      have hd : ds = dg a := by simpa [dg_zero] using hds.out.symm
      have hN := fun u => (hown.far (p := ⟨w.heap.size, 0, none⟩) (by simp) u).nat hd
      obtain ⟨A, c, rfl, hN0⟩ := hown.nat hd
      have HH := Lib.hid hown.high
      have hr := (row_below hBr (g := w.heap.size) (by omega)).trans (row_at w _ _ _ rfl)
      have hlt := row_lt hr
      have hc0 : wr.cell? ⟨w.heap.size, 0, none⟩ = some (.slice none 0 0) := (row_cell hr 0).trans rfl
      have hf0 : wr.frozen? ⟨w.heap.size, 0, none⟩ = false := row_frozen hr 0
      have HD := Lib.hid hd
      clear hown hds hr hd hN0
      have HN := Lib.hid hN; clear hN
      go_wp2_with fail
      refine bodyPost_ret (v := .agg #[.slice A (dg a).length c]) (by simp [results, Try.results144, go_sem, hc0]) rfl ⟨A, c, rfl, ?_, ?_, fun x hx => by have := HH.out x hx; omega⟩
      · obtain ⟨A', c', e, hN⟩ := HN.out (.slice A (dg a).length c)
        cases e
        exact hN
      · exact ((((Below.refl _ _).alloc (Nat.le_refl _) _).trans (hBr.mono (by omega))).setCell (by simp) _)
end Go.Proofs.Ytnakkjgnjffkpaa
