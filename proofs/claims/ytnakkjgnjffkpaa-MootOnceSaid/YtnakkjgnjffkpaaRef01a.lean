/-
  The reference's digits in memory; what bullionref01.trim, at and Of answer.
  What bullionref01.at and Cmp answer.
  What bullionref01.Add answers.
  What bullionref01.Most, Uint and Told answer.
  What bullionref01.Mul answers.
-/
import Derived.Test.YtnakkjgnjffkpaaMem
import Derived.Test.YtnakkjgnjffkpaaDg
import Derived.Laws.MakeOwn
namespace Go.Proofs.Ytnakkjgnjffkpaa
open Go.RowKit
set_option linter.unusedVariables false

/-- A slice that reads as the numbers f 0 .. f (n - 1), from the head of a block on. -/
def Ints (w : World) (A : Option Addr) (n : Nat) (f : Nat → Nat) : Prop :=
  0 < n → ∃ g, A = some ⟨g, 0, none⟩ ∧ g < w.heap.size ∧ ∀ i, i < n → w.cell? ⟨g, i, none⟩ = some (.int .i64 ((f i : Nat) : Int))
theorem Ints.below {w w' : World} {A : Option Addr} {n : Nat} {f : Nat → Nat} {B : Nat} (h : Ints w A n f) (hb : Below B w w') (hB : w.heap.size ≤ B) : Ints w' A n f := fun hn => by
  obtain ⟨g, e, hg, hc⟩ := h hn
  refine ⟨g, e, Nat.lt_of_lt_of_le hg hb.size, fun i hi => ?_⟩
  rw [hb.cell (p := ⟨g, i, none⟩) (Nat.lt_of_lt_of_le hg hB)]
  exact hc i hi
theorem Ints.alloc {w : World} {A : Option Addr} {n : Nat} {f : Nat → Nat} (h : Ints w A n f) (o : Obj) : Ints (w.alloc o) A n f :=
  h.below ((Below.refl _ _).alloc (Nat.le_refl _) o) (Nat.le_refl _)
/-- A whole number in memory: its digits. -/
def NatV (w : World) (A : Option Addr) (n : Nat) (a : Nat) : Prop := n = (dg a).length ∧ Ints w A n (dgt a)
theorem NatV.below {w w' : World} {A : Option Addr} {n a : Nat} {B : Nat} (h : NatV w A n a) (hb : Below B w w') (hB : w.heap.size ≤ B) : NatV w' A n a := ⟨h.1, h.2.below hb hB⟩
theorem NatV.stay {w w' : World} {A : Option Addr} {n a : Nat} (h : NatV w A n a) (hb : Below w.heap.size w w') : NatV w' A n a := ⟨h.1, h.2.below hb (Nat.le_refl _)⟩
theorem NatV.alloc {w : World} {A : Option Addr} {n a : Nat} (h : NatV w A n a) (o : Obj) : NatV (w.alloc o) A n a := ⟨h.1, h.2.alloc o⟩
theorem NatV.zero (w : World) (A : Option Addr) : NatV w A 0 0 := ⟨rfl, fun h => absurd h (by omega)⟩

set_option maxHeartbeats 400000 in
theorem trim_core (A : Option Addr) (f : Nat → Nat) (n m : Nat) (c : Nat) (w : World) (hI : Ints w A n f) (hn : n ≤ c) (hc : c ≤ 9223372036854775807)
    (hm : Hid (∀ k, k ≤ n → (∀ i, k ≤ i → i < n → f i = 0) → (k = 0 ∨ f (k - 1) ≠ 0) → k = m)) :
    Calls Try.prog 161 #[.slice A n c] w fun e w' => e = .returned (.agg #[.slice A m c]) ∧ Below w.heap.size w w' := by
  go_enter Try.func161, Try.ntmps161
  go_wp2_with fail
  go_loop [3] (fun t => ∃ k : Nat, k ≤ n ∧ t = .int .i64 k ∧ Hid (∀ i, k ≤ i → i < n → f i = 0)) (fun t => (intOf t).toNat)
  case atStart => exact ⟨n, by omega, rfl, Lib.hid (by omega)⟩
  case round =>
    obtain ⟨k, hk, rfl, hz⟩ := hrel
    by_cases hk0 : 0 < k
    · obtain ⟨g, rfl, hg, hcell⟩ := hI (by omega)
      have hck := (hcell (k - 1) (by omega))
      clear hcell hI
      have e1 : ((k : Int) - 1).toNat = k - 1 := by omega
      by_cases hd : f (k - 1) = 0
      · rw [hd] at hck
        have HZ : Hid (∀ i, k - 1 ≤ i → i < n → f i = 0) := Lib.hid (fun i h1 h2 => by
          by_cases h : i = k - 1
          · subst h; exact hd
          · exact hz.out i (by omega) h2)
        have HD := Lib.hid hd
        clear hd
        go_wp2_with fail
        go_round
        case rel => exact ⟨k - 1, by omega, by go_num, HZ⟩
        case measure => simp [intOf]; omega
      · have hm' := hm.out k hk hz.out (.inr hd)
        have hd' : ((f (k - 1) : Int) == 0) = false := by simp; omega
        clear hm hd
        subst hm'
        go_wp2_with fail
        exact bodyPost_ret (v := .agg #[.slice (some ⟨g, 0, none⟩) k c]) (by simp [results, Try.results161, go_sem]) rfl ⟨rfl, (by (repeat (first | exact Below.refl _ _ | assumption | (refine Below.allocT ?_ _) | refine Below.drew ?_ | refine below_drewN ?_ _ | (refine Below.then ?_ (by assumption)) | (refine Below.setRow ?_ ?_ _; rotate_left; (focus (first | exact Nat.lt_succ_self _ | ((repeat rw [World.size_alloc]); omega) | (simp; done) | (simp; omega) | omega))) | (refine Below.setCell ?_ ?_ _; rotate_left; (focus (first | exact Nat.lt_succ_self _ | ((repeat rw [World.size_alloc]); omega) | (simp; done) | (simp; omega) | omega))) | (refine Below.then' ?_ (by assumption) ?_; rotate_left; (focus (first | exact Nat.lt_succ_self _ | ((repeat rw [World.size_alloc]); omega) | (simp; done) | (simp; omega) | omega))) | fail)); (first | done | fail))⟩
    · obtain rfl : k = 0 := by omega
      have hm' := hm.out 0 hk hz.out (.inl rfl)
      subst hm'
      clear hm
      go_wp2_with fail
      exact bodyPost_ret (v := .agg #[.slice A (0 : Nat) c]) (by simp [results, Try.results161, go_sem]) rfl ⟨rfl, (by (repeat (first | exact Below.refl _ _ | assumption | (refine Below.allocT ?_ _) | refine Below.drew ?_ | refine below_drewN ?_ _ | (refine Below.then ?_ (by assumption)) | (refine Below.setRow ?_ ?_ _; rotate_left; (focus (first | exact Nat.lt_succ_self _ | ((repeat rw [World.size_alloc]); omega) | (simp; done) | (simp; omega) | omega))) | (refine Below.setCell ?_ ?_ _; rotate_left; (focus (first | exact Nat.lt_succ_self _ | ((repeat rw [World.size_alloc]); omega) | (simp; done) | (simp; omega) | omega))) | (refine Below.then' ?_ (by assumption) ?_; rotate_left; (focus (first | exact Nat.lt_succ_self _ | ((repeat rw [World.size_alloc]); omega) | (simp; done) | (simp; omega) | omega))) | fail)); (first | done | fail))⟩
theorem trim_any (A : Option Addr) (l : List Nat) (n c : Nat) (w : World) (hl : low l) (hln : l.length = n) (hI : Ints w A n (fun i => l.getD i 0)) (hn : n ≤ c) (hc : c ≤ 9223372036854775807) :
    Calls Try.prog 161 #[.slice A n c] w fun e w' => e = .returned (.agg #[.slice A (dg (val l)).length c]) ∧ Below w.heap.size w w' ∧ NatV w' A (dg (val l)).length (val l) := by
  subst hln
  refine (trim_core A (fun i => l.getD i 0) l.length (dg (val l)).length c w hI hn hc (Lib.hid fun k hk hz ht => ?_)).mono fun e w' ⟨he, hb⟩ => ⟨he, hb, rfl, ?_⟩
  · have := trim_eq hl hk hz ht
    rw [← this]; simp; omega
  · refine Ints.below (w := w) (fun hp => ?_) hb (Nat.le_refl _)
    have hle : (dg (val l)).length ≤ l.length := len_le_of_lt (val_lt hl)
    obtain ⟨g, e1, hg, hcell⟩ := hI (by omega)
    refine ⟨g, e1, hg, fun i hi => ?_⟩
    rw [hcell i (by omega)]
    congr 3
    have := dgt_val hl i
    rw [this]
/-! ### Slices of ints that the call itself made -/
theorem int_info : (Try.prog.info? 3).map (fun i => (i.zero, i.size, i.bytes)) = some (some (.int .i64 0), 1, 8) := by kernel_rfl
theorem ints_under : Try.prog.underlying 34 = some (.slice 3) := by kernel_rfl
def OwnI (w : World) (B : Nat) (v : Value) (ds : List Nat) : Prop := w.ownsRow B 3 1 v ds.length (ds.map fun d => .int .i64 ((d : Nat) : Int))
theorem OwnI.nil (w : World) (B : Nat) : OwnI w B (.slice none 0 0) [] := ⟨rfl, .inl ⟨rfl, rfl⟩⟩
theorem OwnI.alloc {w : World} {B : Nat} {v : Value} {ds : List Nat} (h : OwnI w B v ds) (o : Obj) : OwnI (w.alloc o) B v ds := World.ownsRow.alloc h o
theorem OwnI.block {w : World} {B : Nat} {v : Value} {ds : List Nat} (h : OwnI w B v ds) : ∀ k, v.ownBlock = some k → B ≤ k := by
  rcases h.2 with ⟨rfl, _⟩ | ⟨g, cap, cur, rfl, hb, _⟩
  · intro k hk; cases hk
  · intro k hk; cases hk; exact hb
theorem OwnI.high {w : World} {B n c : Nat} {A : Option Addr} {ds : List Nat} (h : OwnI w B (.slice A n c) ds) : ∀ x, A = some x → B ≤ x.block := by
  rintro x rfl; exact h.block x.block rfl
theorem OwnI.form {w : World} {B : Nat} {v : Value} {ds : List Nat} (h : OwnI w B v ds) : ∃ A c, v = .slice A ds.length c ∧ ds.length ≤ c ∧ c ≤ maxLen ∧ Ints w A ds.length (fun i => ds.getD i 0) := by
  have h0 := h
  rcases h.2 with ⟨rfl, h1⟩ | ⟨g, cap, cur, rfl, hb, hh, hc, hm, hs, ht⟩
  · exact ⟨none, 0, by rw [h1], by omega, by unfold maxLen; omega, fun hp => by omega⟩
  · refine ⟨_, cap, rfl, hc, hm, fun hp => ⟨g, rfl, ?_, fun i hi => ?_⟩⟩
    · rcases Nat.lt_or_ge g w.heap.size with hlt | hge
      · exact hlt
      · rw [Array.getElem?_eq_none hge] at hh; cases hh
    · rw [cell_of_row w g i cur _ _ hh]
      have e1 : (cur.toList.take (ds.length * 1))[i]? = cur.toList[i]? := List.getElem?_take_of_lt (by omega)
      rw [ht] at e1
      rw [← Array.getElem?_toList, ← e1]
      simp [hi]
theorem OwnI.below {w w' : World} {B B' : Nat} {v : Value} {ds : List Nat} (h : OwnI w B v ds) (hb : Below B' w w') (hB : w.heap.size ≤ B') : OwnI w' B v ds := by
  rcases h with ⟨h1, ⟨rfl, h2⟩ | ⟨g, cap, cur, rfl, hbb, hh, hr⟩⟩
  · exact ⟨h1, .inl ⟨rfl, h2⟩⟩
  · refine ⟨h1, .inr ⟨g, cap, cur, rfl, hbb, ?_, hr⟩⟩
    rw [hb.block g (Nat.lt_of_lt_of_le ?_ hB)]
    · exact hh
    · rcases Nat.lt_or_ge g w.heap.size with hlt | hge
      · exact hlt
      · rw [Array.getElem?_eq_none hge] at hh; cases hh
theorem OwnI.far {w : World} {B : Nat} {v : Value} {ds : List Nat} (h : OwnI w B v ds) {p : Addr} (hp : p.block < B) (u : Value) : OwnI (w.setCell p u) B v ds := by
  rcases h with ⟨h1, ⟨rfl, h2⟩ | ⟨g, cap, cur, rfl, hbb, hh, hr⟩⟩
  · exact ⟨h1, .inl ⟨rfl, h2⟩⟩
  · refine ⟨h1, .inr ⟨g, cap, cur, rfl, hbb, ?_, hr⟩⟩
    rw [Below.heap_setCell w p u g (by omega)]
    exact hh
theorem wpList_app_int {w : World} {ops : Array Oper} {rest : List Oper} {o : Oper} {a : Act} {Q : Exit → Act → World → Prop} (hgd : o.guard = none) (s x : Operand)
    (ho : o.op = .call { callee := .builtin .append, args := #[s, x], argTypes := #[34, 34] })
    (B : Nat) (v : Value) (ds : List Nat) (y : Nat) (b c : Nat) (hs : a.eval s = v) (hx : a.eval x = .slice (some ⟨b, 0, none⟩) 1 c) (hown : OwnI w B v ds)
    (hc : w.cell? ⟨b, 0, none⟩ = some (.int .i64 ((y : Nat) : Int))) (hlen : ds.length ≤ 1000000) (hB : B ≤ w.heap.size)
    (h : ∀ v' w', OwnI w' B v' (ds ++ [y]) → w.grownBy w' v.ownBlock → wpList Try.prog ops Q rest (a.put o.dst v') w') : wpList Try.prog ops Q (o :: rest) a w := by
  obtain ⟨i0, hi, hz0, hz1, hz2⟩ := info_parts int_info
  refine wpList_append_own _ hgd s x 34 ho B 3 i0 (.int .i64 0) 1 8 ints_under hi hz0 hz1 hz2 rfl (by decide) v ds.length _ hs hown ⟨b, 0, none⟩ 1 c [.int .i64 ((y : Nat) : Int)] hx rfl ?_ ?_ (by unfold maxLen; omega) (by omega) hB ?_
  · intro j u hj
    cases j with
    | zero => simp at hj; subst hj; simpa [Addr.add] using hc
    | succ j => simp at hj
  · intro u hu; simp at hu; subst hu; rfl
  · intro v' w' h1 h2 _
    refine h v' w' ?_ h2
    unfold OwnI
    simpa using h1
theorem OwnI.drewN {w : World} {B : Nat} {v : Value} {ds : List Nat} (h : OwnI w B v ds) (k : Nat) : OwnI (w.drewN k) B v ds := h
/-- 'd = append(d, z)', d the call's own: behind the one-cell block that holds z. -/
theorem wpList_app {X : World} {ops : Array Oper} {rest : List Oper} {o : Oper} {a : Act} {Q : Exit → Act → World → Prop} (hgd : o.guard = none) (s x : Operand)
    (ho : o.op = .call { callee := .builtin .append, args := #[s, x], argTypes := #[34, 34] })
    (B : Nat) (v : Value) (ds : List Nat) (z : Int) (y : Nat) (hs : a.eval s = v) (hx : a.eval x = .slice (some ⟨X.heap.size, 0, none⟩) 1 1) (hown : OwnI X B v ds)
    (hy : z = ((y : Nat) : Int)) (hlen : ds.length ≤ 1000000) (hB : B ≤ X.heap.size)
    (h : ∀ v' w', OwnI w' B v' (ds ++ [y]) → (∀ C u, Below C u X → C ≤ B → Below C u w') → wpList Try.prog ops Q rest (a.put o.dst v') w') : wpList Try.prog ops Q (o :: rest) a (X.alloc (.cells #[.int .i64 z] 3)) := by
  subst hy
  refine wpList_app_int hgd s x ho B v ds y X.heap.size 1 hs hx (hown.alloc _) (World.cell?_alloc_new _ _ _ _) hlen (by rw [World.size_alloc]; omega) fun v' w' h1 h2 => h v' w' h1 fun C u hb hC => ?_
  exact (hb.alloc (by omega) _).grown h2 (by rw [World.size_alloc]; omega) (fun k hk => Nat.le_trans hC (hown.block k hk))
/-- What a function answers that makes a whole number. -/
def RetNat (w : World) (a : Nat) (e : Ending) (w' : World) : Prop := ∃ A c, e = .returned (.agg #[.slice A (dg a).length c]) ∧ NatV w' A (dg a).length a ∧ Below w.heap.size w w' ∧ ∀ x, A = some x → w.heap.size ≤ x.block
theorem OwnI.nat {w : World} {B : Nat} {v : Value} {ds : List Nat} {a : Nat} (h : OwnI w B v ds) (hd : ds = dg a) : ∃ A c, v = .slice A (dg a).length c ∧ NatV w A (dg a).length a := by
  subst hd
  obtain ⟨A, c, e, _, _, hI⟩ := h.form
  refine ⟨A, c, e, rfl, ?_⟩
  have : (fun i => (dg a).getD i 0) = dgt a := funext fun i => dg_getD a i
  rwa [this] at hI
set_option maxHeartbeats 400000 in
theorem ofn_any (a : Nat) (ha : a < 18446744073709551616) (w : World) : Calls Try.prog 144 #[.int .u64 a] w (RetNat w a) := by
  have h20 := len_u64 ha
  go_enter Try.func144, Try.ntmps144
  go_wp2_with fail
  go_loopw [0, 3] (fun x v wr => ∃ (y : Nat) (ds : List Nat), y ≤ a ∧ x = .int .u64 y ∧ OwnI wr (w.heap.size + 1) v ds ∧ Hid (dg a = ds ++ dg y) ∧ Below (w.heap.size + 1) (w.alloc (.cells #[.slice none 0 0] 190)) wr) (fun x _ _ => (intOf x).toNat)
  case atStart => exact ⟨a, [], by omega, rfl, OwnI.nil _ _, Lib.hid (by simp), Below.refl _ _⟩
  case round =>
    obtain ⟨y, ds, hy, rfl, hown, hds, hBr⟩ := hrel
    by_cases h0 : 0 < y
    · have hz := hBr.size
      simp at hz
      have hlen : ds.length ≤ 20 := by
        have := congrArg List.length hds.out
        simp at this; omega
      go_wp2_with (at_builtin; refine wpList_app rfl _ _ rfl (w.heap.size + 1) _ ds _ (y % 10) rfl rfl hown ?_ ?_ ?_ ?_; (focus (simp; done)); (focus omega); (focus omega); intro v' w' h1 h2)
      refine ⟨⟨y / 10, ds ++ [y % 10], by omega, by go_num, h1, Lib.hid ?_, h2 _ _ hBr (Nat.le_refl _)⟩, by simp [intOf]; omega⟩
      rw [hds.out, dg_pos h0]; simp
    · obtain rfl : y = 0 := by omega
      have hd : ds = dg a := by simpa [dg_zero] using hds.out.symm
      have hN := fun u => (hown.far (p := ⟨w.heap.size, 0, none⟩) (by simp) u).nat hd
      obtain ⟨A, c, rfl, hN0⟩ := hown.nat hd
      have HH := Lib.hid hown.high
      have hr := (row_below hBr (g := w.heap.size) (by omega)).trans (row_at w _ _ _ rfl)
      have hlt := row_lt hr
      have hc0 : wr.cell? ⟨w.heap.size, 0, none⟩ = some (.slice none 0 0) := (row_cell hr 0).trans rfl
      have hf0 : wr.frozen? ⟨w.heap.size, 0, none⟩ = false := row_frozen hr 0
      have HD := Lib.hid hd
      clear hown hds hr hd hN0
      have HN := Lib.hid hN; clear hN
      go_wp2_with fail
      refine bodyPost_ret (v := .agg #[.slice A (dg a).length c]) (by simp [results, Try.results144, go_sem, hc0]) rfl ⟨A, c, rfl, ?_, ?_, fun x hx => by have := HH.out x hx; omega⟩
      · obtain ⟨A', c', e, hN⟩ := HN.out (.slice A (dg a).length c)
        cases e
        exact hN
      · exact ((((Below.refl _ _).alloc (Nat.le_refl _) _).trans (hBr.mono (by omega))).setCell (by simp) _)
end Go.Proofs.Ytnakkjgnjffkpaa

namespace Go.Proofs.Ytnakkjgnjffkpaa
open Go.RowKit
set_option linter.unusedVariables false

theorem at_dg (A : Option Addr) (n c a : Nat) (i : Nat) (w : World) (hN : NatV w A n a) (hn : n ≤ 1000) (hi : i ≤ 100000) :
    Calls Try.prog 160 #[.slice A n c, .int .i64 i] w fun e w' => e = .returned (.int .i64 ((dgt a i : Nat) : Int)) ∧ w' = w := by
  obtain ⟨hl, hI⟩ := hN
  by_cases hlt : i < n
  · obtain ⟨g, rfl, hg, hcell⟩ := hI (by omega)
    have hc := hcell i hlt
    have HL := Lib.hid hl
    clear hcell hl hI
    go_enter Try.func160, Try.ntmps160
    go_wp2
    go_ret
    exact ⟨rfl, rfl⟩
  · have h0 : dgt a i = 0 := dgt_of_len (by omega)
    have HL := Lib.hid hl
    clear hl hI
    go_enter Try.func160, Try.ntmps160
    go_wp2
    go_ret
    exact ⟨ret_int (by rw [h0]; rfl), rfl⟩
theorem at_at (A : Option Addr) (n c a : Nat) (i : Int) (w : World) (hN : NatV w A n a) (hn : n ≤ 1000) (h0 : 0 ≤ i) (hi : i ≤ 100000) :
    Calls Try.prog 160 #[.slice A n c, .int .i64 i] w fun e w' => e = .returned (.int .i64 ((dgt a i.toNat : Nat) : Int)) ∧ w' = w := by
  obtain ⟨k, rfl⟩ := Int.eq_ofNat_of_zero_le h0
  exact at_dg A n c a k w hN hn (by omega)
def cmpI (a b : Nat) : Int := if a < b then -1 else if b < a then 1 else 0
theorem NatV.drewN {w : World} {A : Option Addr} {n a : Nat} (h : NatV w A n a) (k : Nat) : NatV (w.drewN k) A n a := h
theorem NatV.draw {w : World} {A : Option Addr} {n a : Nat} (h : NatV w A n a) : NatV w.drew A n a := h
theorem NatV.far {w : World} {A : Option Addr} {n a B : Nat} (h : NatV w A n a) (hA : ∀ x, A = some x → B ≤ x.block) {p : Addr} (hp : p.block < B) (u : Value) : NatV (w.setCell p u) A n a :=
  ⟨h.1, fun hn => by
    obtain ⟨g, e, hg, hc⟩ := h.2 hn
    have hb := hA _ e
    refine ⟨g, e, by simpa [World.setCell] using hg, fun i hi => ?_⟩
    rw [← hc i hi]
    refine World.cell?_of_block (w := w) ?_
    exact Below.heap_setCell w p u g (by simp at hb; omega)⟩
set_option maxHeartbeats 1000000 in
theorem cmp_any (A1 A2 : Option Addr) (n1 c1 n2 c2 a b : Nat) (w : World) (hN1 : NatV w A1 n1 a) (hN2 : NatV w A2 n2 b) (h1 : n1 ≤ 1000) (h2 : n2 ≤ 1000) :
    Calls Try.prog 145 #[.agg #[.slice A1 n1 c1], .agg #[.slice A2 n2 c2]] w fun e w' => e = .returned (.int .i64 (cmpI a b)) ∧ Below w.heap.size w w' := by
  have hM1 := (hN1.alloc (.cells #[.slice A1 n1 c1] 190)).alloc (.cells #[.slice A2 n2 c2] 190)
  have hM2 := (hN2.alloc (.cells #[.slice A1 n1 c1] 190)).alloc (.cells #[.slice A2 n2 c2] 190)
  have hs1 := hN1.1
  have hs2 := hN2.1
  have H0 : Hid (∀ k : Nat, n1 ≤ k → n2 ≤ k → a / 10 ^ k = b / 10 ^ k) := Lib.hid fun k e1 e2 => by
    rw [Nat.div_eq_of_lt (lt_of_len_le (by omega)), Nat.div_eq_of_lt (lt_of_len_le (by omega))]
  clear hN1 hN2 hs1 hs2
  go_enter Try.func145, Try.ntmps145
  go_wp2_with fail
  all_goals
    go_loopw [5] (fun t wr => ∃ (k : Int) (m : Nat), -1 ≤ k ∧ k ≤ 1000 ∧ t = .int .i64 k ∧ Hid (a / 10 ^ (k + 1).toNat = b / 10 ^ (k + 1).toNat) ∧ wr = ((w.alloc (.cells #[.slice A1 n1 c1] 190)).alloc (.cells #[.slice A2 n2 c2] 190)).drewN m) (fun t _ => (intOf t + 1).toNat)
    case atStart => exact ⟨_, 0, by omega, by omega, rfl, Lib.hid (H0.out _ (by omega) (by omega)), rfl⟩
    case round =>
      obtain ⟨k, m, hk1, hk, rfl, hq, rfl⟩ := hrel
      clear H0
      have hA : ∀ nq, NatV (((w.alloc (.cells #[.slice A1 n1 c1] 190)).alloc (.cells #[.slice A2 n2 c2] 190)).drewN nq) A1 n1 a := fun nq => hM1.drewN nq
      have hB : ∀ nq, NatV (((w.alloc (.cells #[.slice A1 n1 c1] 190)).alloc (.cells #[.slice A2 n2 c2] 190)).drewN nq) A2 n2 b := fun nq => hM2.drewN nq
      clear hM1 hM2
      by_cases hk0 : 0 ≤ k
      · obtain ⟨j, rfl⟩ := Int.eq_ofNat_of_zero_le hk0
        rw [show ((j : Int) + 1).toNat = j + 1 from by omega] at hq
        rcases Nat.lt_trichotomy (dgt a j) (dgt b j) with hd | hd | hd
        · have hlt := cmp_lt hq.out hd
          go_wp2_with fail
          go_quiet ((go_at_call 160; first | exact Calls.quiet_of_same (at_dg _ _ _ _ j _ (hA _) h1 (by omega)) | exact Calls.quiet_of_same (at_dg _ _ _ _ j _ (hB _) h2 (by omega)) | exact calm_more (at_dg _ _ _ _ j _ (hA _) h1 (by omega)) | exact calm_more (at_dg _ _ _ _ j _ (hB _) h2 (by omega))))
          go_wp2_with fail
          go_ret
          exact ⟨ret_int (by simp [cmpI, hlt]), (by (repeat (first | exact Below.refl _ _ | assumption | (refine Below.allocT ?_ _) | refine Below.drew ?_ | refine below_drewN ?_ _ | (refine Below.then ?_ (by assumption)) | (refine Below.setRow ?_ ?_ _; rotate_left; (focus (first | exact Nat.lt_succ_self _ | ((repeat rw [World.size_alloc]); omega) | (simp; done) | (simp; omega) | omega))) | (refine Below.setCell ?_ ?_ _; rotate_left; (focus (first | exact Nat.lt_succ_self _ | ((repeat rw [World.size_alloc]); omega) | (simp; done) | (simp; omega) | omega))) | (refine Below.then' ?_ (by assumption) ?_; rotate_left; (focus (first | exact Nat.lt_succ_self _ | ((repeat rw [World.size_alloc]); omega) | (simp; done) | (simp; omega) | omega))) | fail)); (first | done | fail))⟩
        · have HQ : Hid (a / 10 ^ j = b / 10 ^ j) := Lib.hid (cmp_top hq.out hd)
          have hd1 : (dgt a j) ≤ dgt b j := by omega
          have hd2 : (dgt b j) ≤ dgt a j := by omega
          clear hd hq
          go_wp2_with fail
          go_quiet ((go_at_call 160; first | exact Calls.quiet_of_same (at_dg _ _ _ _ j _ (hA _) h1 (by omega)) | exact Calls.quiet_of_same (at_dg _ _ _ _ j _ (hB _) h2 (by omega)) | exact calm_more (at_dg _ _ _ _ j _ (hA _) h1 (by omega)) | exact calm_more (at_dg _ _ _ _ j _ (hB _) h2 (by omega))))
          go_wp2_with fail
          go_quiet ((go_at_call 160; first | exact Calls.quiet_of_same (at_dg _ _ _ _ j _ (hA _) h1 (by omega)) | exact Calls.quiet_of_same (at_dg _ _ _ _ j _ (hB _) h2 (by omega)) | exact calm_more (at_dg _ _ _ _ j _ (hA _) h1 (by omega)) | exact calm_more (at_dg _ _ _ _ j _ (hB _) h2 (by omega))))
          go_wp2_with fail
          exact ⟨⟨(j : Int) - 1, _, by omega, by omega, rfl, Lib.hid (by rw [show ((j : Int) - 1 + 1).toNat = j from by omega]; exact HQ.out), rfl⟩, by simp [intOf]⟩
        · have hlt := cmp_lt hq.out.symm hd
          have hlt' : ¬ a < b := by omega
          go_wp2_with fail
          go_quiet ((go_at_call 160; first | exact Calls.quiet_of_same (at_dg _ _ _ _ j _ (hA _) h1 (by omega)) | exact Calls.quiet_of_same (at_dg _ _ _ _ j _ (hB _) h2 (by omega)) | exact calm_more (at_dg _ _ _ _ j _ (hA _) h1 (by omega)) | exact calm_more (at_dg _ _ _ _ j _ (hB _) h2 (by omega))))
          go_wp2_with fail
          go_quiet ((go_at_call 160; first | exact Calls.quiet_of_same (at_dg _ _ _ _ j _ (hA _) h1 (by omega)) | exact Calls.quiet_of_same (at_dg _ _ _ _ j _ (hB _) h2 (by omega)) | exact calm_more (at_dg _ _ _ _ j _ (hA _) h1 (by omega)) | exact calm_more (at_dg _ _ _ _ j _ (hB _) h2 (by omega))))
          go_wp2_with fail
          go_ret
          exact ⟨ret_int (by simp [cmpI, hlt, hlt']), (by (repeat (first | exact Below.refl _ _ | assumption | (refine Below.allocT ?_ _) | refine Below.drew ?_ | refine below_drewN ?_ _ | (refine Below.then ?_ (by assumption)) | (refine Below.setRow ?_ ?_ _; rotate_left; (focus (first | exact Nat.lt_succ_self _ | ((repeat rw [World.size_alloc]); omega) | (simp; done) | (simp; omega) | omega))) | (refine Below.setCell ?_ ?_ _; rotate_left; (focus (first | exact Nat.lt_succ_self _ | ((repeat rw [World.size_alloc]); omega) | (simp; done) | (simp; omega) | omega))) | (refine Below.then' ?_ (by assumption) ?_; rotate_left; (focus (first | exact Nat.lt_succ_self _ | ((repeat rw [World.size_alloc]); omega) | (simp; done) | (simp; omega) | omega))) | fail)); (first | done | fail))⟩
      · obtain rfl : k = -1 := by omega
        have hab : a = b := by simpa using hq.out
        go_wp2_with fail
        go_ret
        exact ⟨ret_int (by first | (rw [hab]; simp [cmpI]; done) | (simp [cmpI]; done)), (by (repeat (first | exact Below.refl _ _ | assumption | (refine Below.allocT ?_ _) | refine Below.drew ?_ | refine below_drewN ?_ _ | (refine Below.then ?_ (by assumption)) | (refine Below.setRow ?_ ?_ _; rotate_left; (focus (first | exact Nat.lt_succ_self _ | ((repeat rw [World.size_alloc]); omega) | (simp; done) | (simp; omega) | omega))) | (refine Below.setCell ?_ ?_ _; rotate_left; (focus (first | exact Nat.lt_succ_self _ | ((repeat rw [World.size_alloc]); omega) | (simp; done) | (simp; omega) | omega))) | (refine Below.then' ?_ (by assumption) ?_; rotate_left; (focus (first | exact Nat.lt_succ_self _ | ((repeat rw [World.size_alloc]); omega) | (simp; done) | (simp; omega) | omega))) | fail)); (first | done | fail))⟩
end Go.Proofs.Ytnakkjgnjffkpaa

namespace Go.Proofs.Ytnakkjgnjffkpaa
open Go.RowKit
set_option linter.unusedVariables false

theorem add_end {a b n1 n2 i c : Nat} {v : Nat} (h1 : n1 = (dg a).length) (h2 : n2 = (dg b).length) (hi1 : n1 ≤ i) (hi2 : n2 ≤ i) (hc : c = 0) (h : v + c * 10 ^ i = a % 10 ^ i + b % 10 ^ i) : v = a + b := by
  subst hc
  rw [mod_of_len (by omega), mod_of_len (by omega)] at h
  omega
set_option maxHeartbeats 1000000 in
set_option maxRecDepth 100000 in
theorem add_any (A1 A2 : Option Addr) (n1 c1 n2 c2 a b : Nat) (w : World) (hN1 : NatV w A1 n1 a) (hN2 : NatV w A2 n2 b) (h1 : n1 ≤ 900) (h2 : n2 ≤ 900) :
    Calls Try.prog 153 #[.agg #[.slice A1 n1 c1], .agg #[.slice A2 n2 c2]] w (RetNat w (a + b)) := by
  have L1 := Lib.hid hN1.1
  have L2 := Lib.hid hN2.1
  have S0 : Below w.heap.size w (((w.alloc (.cells #[.slice A1 n1 c1] 190)).alloc (.cells #[.slice A2 n2 c2] 190)).alloc (.cells #[.slice none 0 0] 190)) := (by (repeat (first | exact Below.refl _ _ | assumption | (refine Below.allocT ?_ _) | refine Below.drew ?_ | refine below_drewN ?_ _ | (refine Below.then ?_ (by assumption)) | (refine Below.setRow ?_ ?_ _; rotate_left; (focus (first | exact Nat.lt_succ_self _ | ((repeat rw [World.size_alloc]); omega) | (simp; done) | (simp; omega) | omega))) | (refine Below.setCell ?_ ?_ _; rotate_left; (focus (first | exact Nat.lt_succ_self _ | ((repeat rw [World.size_alloc]); omega) | (simp; done) | (simp; omega) | omega))) | (refine Below.then' ?_ (by assumption) ?_; rotate_left; (focus (first | exact Nat.lt_succ_self _ | ((repeat rw [World.size_alloc]); omega) | (simp; done) | (simp; omega) | omega))) | fail)); (first | done | fail))
  have R1 : row (((w.alloc (.cells #[.slice A1 n1 c1] 190)).alloc (.cells #[.slice A2 n2 c2] 190)).alloc (.cells #[.slice none 0 0] 190)) w.heap.size = some #[.slice A1 n1 c1] := (by (repeat (first | assumption | (refine row_at _ _ _ _ ?_; first | rfl | (simp only [World.size_alloc]; done) | (simp only [World.size_alloc]; omega)) | (refine (row_past _ _ _ ?_).trans ?_; (focus (first | exact Nat.lt_succ_self _ | ((repeat rw [World.size_alloc]); omega) | (simp; done) | (simp; omega) | omega))) | rw [row_drewN] | rw [row_drew])); (first | done | fail))
  have R2 : row (((w.alloc (.cells #[.slice A1 n1 c1] 190)).alloc (.cells #[.slice A2 n2 c2] 190)).alloc (.cells #[.slice none 0 0] 190)) (w.heap.size + 1) = some #[.slice A2 n2 c2] := (by (repeat (first | assumption | (refine row_at _ _ _ _ ?_; first | rfl | (simp only [World.size_alloc]; done) | (simp only [World.size_alloc]; omega)) | (refine (row_past _ _ _ ?_).trans ?_; (focus (first | exact Nat.lt_succ_self _ | ((repeat rw [World.size_alloc]); omega) | (simp; done) | (simp; omega) | omega))) | rw [row_drewN] | rw [row_drew])); (first | done | fail))
  have R3 : row (((w.alloc (.cells #[.slice A1 n1 c1] 190)).alloc (.cells #[.slice A2 n2 c2] 190)).alloc (.cells #[.slice none 0 0] 190)) (w.heap.size + 2) = some #[.slice none 0 0] := (by (repeat (first | assumption | (refine row_at _ _ _ _ ?_; first | rfl | (simp only [World.size_alloc]; done) | (simp only [World.size_alloc]; omega)) | (refine (row_past _ _ _ ?_).trans ?_; (focus (first | exact Nat.lt_succ_self _ | ((repeat rw [World.size_alloc]); omega) | (simp; done) | (simp; omega) | omega))) | rw [row_drewN] | rw [row_drew])); (first | done | fail))
  go_enter Try.func153, Try.ntmps153
  go_wp2_with fail
  go_loopw [5, 6, 7] (fun v cc ii wr => ∃ (i c : Nat) (ds : List Nat), ii = .int .i64 i ∧ cc = .int .i64 c ∧ c ≤ 1 ∧ i ≤ 901 ∧ OwnI wr (w.heap.size + 3) v ds ∧ Hid (ds.length = i ∧ low ds ∧ val ds + c * 10 ^ i = a % 10 ^ i + b % 10 ^ i ∧ (n1 < i → n2 < i → c = 0)) ∧ Below w.heap.size w wr ∧ row wr w.heap.size = some #[.slice A1 n1 c1] ∧ row wr (w.heap.size + 1) = some #[.slice A2 n2 c2] ∧ row wr (w.heap.size + 2) = some #[.slice none 0 0]) (fun _ _ ii _ => 1000 - (intOf ii).toNat)
  case atStart => exact ⟨0, 0, [], rfl, rfl, by omega, by omega, OwnI.nil _ _, Lib.hid ⟨rfl, (by intro d hd; cases hd), by simp [val, Nat.mod_one], by omega⟩, S0, R1, R2, R3⟩
  case round =>
    obtain ⟨i, c, ds, rfl, rfl, hc, hi, hown, hrel, hB, r1, r2, r3⟩ := hrel
    clear S0 R1 R2 R3
    have hz := row_lt r3
    have q1 : wr.cell? ⟨w.heap.size, 0, none⟩ = some (.slice A1 n1 c1) := row_cell r1 0
    have q2 : wr.cell? ⟨w.heap.size + 1, 0, none⟩ = some (.slice A2 n2 c2) := row_cell r2 0
    have hA : ∀ nq, NatV (wr.drewN nq) A1 n1 a := fun nq => (hN1.stay hB).drewN nq
    have hA' : ∀ nq, NatV (wr.drewN nq) A2 n2 b := fun nq => (hN2.stay hB).drewN nq
    rcases Nat.lt_or_ge n1 n2 with hle | hle
    all_goals
      by_cases hgo : i < n1 ∨ i < n2 ∨ 0 < c
      · have hi' : i ≤ 900 := by
          have := hrel.out.2.2.2; omega
        have b1 := dgt_lt a i
        have b2 := dgt_lt b i
        by_cases him : i < n1 ∨ i < n2
        all_goals
          go_wp2_with fail
          have e1 : IntKind.i64.wrap ((dgt a i : Int) + (dgt b i : Int)) = (dgt a i : Int) + (dgt b i : Int) := IntWalk.i64_in _ (by omega)
          have e2 : IntKind.i64.wrap ((dgt a i : Int) + (dgt b i : Int) + (c : Int)) = (dgt a i : Int) + (dgt b i : Int) + (c : Int) := IntWalk.i64_in _ (by omega)
          go_quiet ((go_at_call 160; first | exact Calls.quiet_of_same (at_dg _ _ _ _ i _ (hA _) (by omega) (by omega)) | exact Calls.quiet_of_same (at_dg _ _ _ _ i _ (hA' _) (by omega) (by omega)) | exact calm_more (at_dg _ _ _ _ i _ (hA _) (by omega) (by omega)) | exact calm_more (at_dg _ _ _ _ i _ (hA' _) (by omega) (by omega))))
          clear e1 e2
          go_wp2_with (at_builtin; refine wpList_app rfl _ _ rfl (w.heap.size + 3) _ ds _ ((dgt a i + dgt b i + c) % 10) rfl rfl (hown.drewN _) ?_ ?_ ?_ ?_; (focus (simp; done)); (focus (have := hrel.out.1; omega)); (focus (show _ ≤ wr.heap.size; omega)); intro v' w' g1 g2)
          have hb3 : Below (w.heap.size + 3) wr w' := g2 _ _ (below_drewN (Below.refl _ _) _) (Nat.le_refl _)
          refine ⟨⟨i + 1, (dgt a i + dgt b i + c) / 10, ds ++ [(dgt a i + dgt b i + c) % 10], by go_num, congrArg (Value.int IntKind.i64) (by omega), by omega, by omega, g1, Lib.hid ⟨by simp [hrel.out.1], low_snoc hrel.out.2.1 (by omega), ?_, ?_⟩, hB.trans (hb3.mono (by omega)), (row_below hb3 (by omega)).trans r1, (row_below hb3 (by omega)).trans r2, (row_below hb3 (by omega)).trans r3⟩, by simp [intOf]; omega⟩
          · rw [val_snoc, hrel.out.1]
            exact add_step a b i c (val ds) hrel.out.2.2.1
          · intro k1 k2
            have k3 : dgt a i = 0 := dgt_of_len (by have := L1.out; omega)
            have k4 : dgt b i = 0 := dgt_of_len (by have := L2.out; omega)
            rw [k3, k4]; omega
      · have hv : val ds = a + b := add_end L1.out L2.out (i := i) (by omega) (by omega) (by omega) hrel.out.2.2.1
        obtain ⟨A, cc, rfl, hcap, hmax, hI⟩ := hown.form
        unfold maxLen at hmax
        have hhi := hown.high
        have HH := Lib.hid hhi
        clear hown
        go_wp2_with fail
        refine (trim_any A ds ds.length cc _ hrel.out.2.1 rfl hI hcap hmax).mono ?_
        rw [hv]
        rintro e w2 ⟨rfl, hb2, hN⟩
        have r3' := (row_below hb2 (g := w.heap.size + 2) (by omega)).trans r3
        have hz2 := row_lt r3'
        have q3 : w2.cell? ⟨w.heap.size + 2, 0, none⟩ = some (.slice none 0 0) := row_cell r3' 0
        have q4 : w2.frozen? ⟨w.heap.size + 2, 0, none⟩ = false := row_frozen r3' 0
        have HF := Lib.hid (hN.far hhi (p := ⟨w.heap.size + 2, 0, none⟩) (by simp) (.slice A (dg (a + b)).length cc))
        clear hN hhi hI hA hA' q1 q2 r1 r2 r3 r3' hgo hcap hmax hv
        go_wp2_with fail
        refine bodyPost_ret (v := .agg #[.slice A (dg (a + b)).length cc]) (by simp [results, Try.results153, go_sem, q3]) rfl ⟨A, cc, rfl, HF.out, ?_, fun x hx => by have := HH.out x hx; omega⟩
        exact (Below.then hB hb2).setCell (p := ⟨w.heap.size + 2, 0, none⟩) (by show w.heap.size ≤ w.heap.size + 2; omega) _
end Go.Proofs.Ytnakkjgnjffkpaa

namespace Go.Proofs.Ytnakkjgnjffkpaa
open Go.RowKit
set_option linter.unusedVariables false

def mostN : Nat := 18446744073709551615
theorem mostN_eq : mostN = 18446744073709551615 := rfl
theorem mostN_len : (dg mostN).length ≤ 20 := len_u64 (by rw [mostN_eq]; omega)
theorem most_any (w : World) : Calls Try.prog 151 #[] w (RetNat w mostN) := by
  have hm : mostN < 18446744073709551616 := by rw [mostN_eq]; omega
  have H0 := fun W => ofn_any mostN hm W
  rw [show ((mostN : Nat) : Int) = 18446744073709551615 from rfl] at H0
  clear hm
  have H := Lib.hid H0
  clear H0
  go_enter Try.func151, Try.ntmps151
  go_wp2_with fail
  refine (H.out _).mono ?_
  rintro e w2 ⟨A, c, rfl, hN, hb, hh⟩
  have r3 := (row_below hb (g := w.heap.size) (by simp)).trans (row_at w _ _ _ rfl)
  have hz2 := row_lt r3
  have q3 : w2.cell? ⟨w.heap.size, 0, none⟩ = some (.slice none 0 0) := row_cell r3 0
  have q4 : w2.frozen? ⟨w.heap.size, 0, none⟩ = false := row_frozen r3 0
  have HF := Lib.hid (hN.far (B := w.heap.size + 1) (by simpa using hh) (p := ⟨w.heap.size, 0, none⟩) (by simp) (.slice A (dg mostN).length c))
  have HH := Lib.hid hh
  clear hN hh r3 H
  go_wp2_with fail
  refine bodyPost_ret (v := .agg #[.slice A (dg mostN).length c]) (by simp [results, Try.results151, go_sem, q3]) rfl ⟨A, c, rfl, HF.out, ?_, fun x hx => by have := HH.out x hx; simp at this; omega⟩
  exact Below.setCell (p := ⟨w.heap.size, 0, none⟩) (by (repeat (first | exact Below.refl _ _ | assumption | (refine Below.allocT ?_ _) | refine Below.drew ?_ | refine below_drewN ?_ _ | (refine Below.then ?_ (by assumption)) | (refine Below.setRow ?_ ?_ _; rotate_left; (focus (first | exact Nat.lt_succ_self _ | ((repeat rw [World.size_alloc]); omega) | (simp; done) | (simp; omega) | omega))) | (refine Below.setCell ?_ ?_ _; rotate_left; (focus (first | exact Nat.lt_succ_self _ | ((repeat rw [World.size_alloc]); omega) | (simp; done) | (simp; omega) | omega))) | (refine Below.then' ?_ (by assumption) ?_; rotate_left; (focus (first | exact Nat.lt_succ_self _ | ((repeat rw [World.size_alloc]); omega) | (simp; done) | (simp; omega) | omega))) | fail)); (first | done | fail)) (by show w.heap.size ≤ w.heap.size; omega) _
/-- The number of 64 bits, if it is one. -/
def fit (a : Nat) : Nat := if a ≤ mostN then a else 0
def fitB (a : Nat) : Bool := decide (a ≤ mostN)
set_option maxHeartbeats 1000000 in
theorem uint_any (A : Option Addr) (n c a : Nat) (w : World) (hN : NatV w A n a) (hn : n ≤ 1000) :
    Calls Try.prog 106 #[.agg #[.slice A n c]] w fun e w' => e = .returned (.tuple #[.int .u64 ((fit a : Nat) : Int), .bool (fitB a)]) ∧ Below w.heap.size w w' := by
  have L1 := Lib.hid hN.1
  have hM := hN.alloc (.cells #[.slice A n c] 190)
  go_enter Try.func106, Try.ntmps106
  go_wp2_with fail
  go_region_with (first | (go_at_call 151; refine (most_any _).mono ?_; rintro e w2 ⟨A2, c2, rfl, hN2, hb2, hh2⟩; have hq2 := (row_below hb2 (g := w.heap.size) (by show w.heap.size < (w.heap.push _).size; simp)).trans (row_at w _ _ _ rfl); have hc2 : w2.cell? ⟨w.heap.size, 0, none⟩ = some (.slice A n c) := row_cell hq2 0; have hz2 := row_lt hq2) | (go_at_call 145; refine (cmp_any A A2 n c _ c2 a mostN _ ((NatV.draw hM).stay hb2) hN2 hn (by have := mostN_len; omega)).mono ?_; rintro e w3 ⟨rfl, hb3⟩))
  all_goals
    have hN3 : NatV w3 A n a := NatV.stay (NatV.stay (NatV.draw hM) hb2) hb3
    have hq3 := (row_below hb3 (g := w.heap.size) (by omega)).trans hq2
    have hc3 : w3.cell? ⟨w.heap.size, 0, none⟩ = some (.slice A n c) := row_cell hq3 0
    have hB : Below w.heap.size w w3 := (by (repeat (first | exact Below.refl _ _ | assumption | (refine Below.allocT ?_ _) | refine Below.drew ?_ | refine below_drewN ?_ _ | (refine Below.then ?_ (by assumption)) | (refine Below.setRow ?_ ?_ _; rotate_left; (focus (first | exact Nat.lt_succ_self _ | ((repeat rw [World.size_alloc]); omega) | (simp; done) | (simp; omega) | omega))) | (refine Below.setCell ?_ ?_ _; rotate_left; (focus (first | exact Nat.lt_succ_self _ | ((repeat rw [World.size_alloc]); omega) | (simp; done) | (simp; omega) | omega))) | (refine Below.then' ?_ (by assumption) ?_; rotate_left; (focus (first | exact Nat.lt_succ_self _ | ((repeat rw [World.size_alloc]); omega) | (simp; done) | (simp; omega) | omega))) | fail)); (first | done | fail))
    clear hc2 hz2 hq2 hb2 hb3 hN2 hh2 hM hN hq3
    by_cases hle : a ≤ mostN
    · have hf : fit a = a := by simp [fit, hle]
      have hg : fitB a = true := by simp [fitB, hle]
      have HF := Lib.hid hf
      have HG := Lib.hid hg
      clear hf hg
      have hcm : cmpI a mostN ≤ 0 := by unfold cmpI; split <;> (try split) <;> omega
      rw [mostN_eq] at hle
      have H0 : Hid (a / 10 ^ n = 0) := Lib.hid (Nat.div_eq_of_lt (lt_of_len_le (by rw [L1.out]; exact Nat.le_refl _)))
      go_wp2_with fail
      go_loop [4, 5] (fun x y => ∃ (k : Int) (v : Nat), -1 ≤ k ∧ k < n ∧ y = .int .i64 k ∧ x = .int .u64 v ∧ Hid (v = a / 10 ^ (k + 1).toNat)) (fun _ y => (intOf y + 1).toNat)
      case atStart => exact ⟨(n : Int) - 1, 0, by omega, by omega, rfl, rfl, Lib.hid (by rw [show ((n : Int) - 1 + 1).toNat = n from by omega]; exact H0.out.symm)⟩
      case round =>
        obtain ⟨k, v, hk1, hk, rfl, rfl, hv⟩ := hrel
        clear H0
        by_cases hk0 : 0 ≤ k
        · obtain ⟨j, rfl⟩ := Int.eq_ofNat_of_zero_le hk0
          rw [show ((j : Int) + 1).toNat = j + 1 from by omega] at hv
          have hnew : Hid (10 * v + dgt a j = a / 10 ^ j) := Lib.hid (by rw [div_pow_succ a j, hv.out]; omega)
          have hle2 : 10 * v + dgt a j ≤ 18446744073709551615 := by rw [hnew.out]; exact Nat.le_trans (Nat.div_le_self _ _) hle
          obtain ⟨g, rfl, hgl, hcell⟩ := hN3.2 (by omega)
          have hcj := hcell j (by omega)
          have bd := dgt_lt a j
          clear hcell hN3
          go_wp2_with fail
          exact ⟨⟨(j : Int) - 1, 10 * v + dgt a j, by omega, by omega, rfl, by first | rfl | go_num, Lib.hid (by rw [show ((j : Int) - 1 + 1).toNat = j from by omega]; exact hnew.out)⟩, by simp [intOf]⟩
        · obtain rfl : k = -1 := by omega
          have hv' : v = a := by simpa using hv.out
          clear hv
          subst hv'
          go_wp2_with fail
          go_ret2
          exact ⟨by rw [HF.out, HG.out]; rfl, hB⟩
    · have hf : fit a = 0 := by simp [fit, hle]
      have hg : fitB a = false := by simp [fitB, hle]
      have HF := Lib.hid hf
      have HG := Lib.hid hg
      clear hf hg
      have hcm : 1 ≤ cmpI a mostN := by unfold cmpI; rw [if_neg (by omega), if_pos (by omega)]; omega
      clear hle
      go_wp2_with fail
      go_ret2
      exact ⟨by rw [HF.out, HG.out]; rfl, hB⟩
def toldE (a : Nat) : Int := if a ≤ mostN then 0 else 10
theorem fit_le {a : Nat} (h : a ≤ 18446744073709551615) : fit a = a := by unfold fit; rw [mostN_eq, if_pos h]
theorem fit_gt {a : Nat} (h : ¬ a ≤ 18446744073709551615) : fit a = 0 := by unfold fit; rw [mostN_eq, if_neg h]
theorem told_le {a : Nat} (h : a ≤ 18446744073709551615) : toldE a = 0 := by unfold toldE; rw [mostN_eq, if_pos h]
theorem told_gt {a : Nat} (h : ¬ a ≤ 18446744073709551615) : toldE a = 10 := by unfold toldE; rw [mostN_eq, if_neg h]
theorem fitB_le {a : Nat} (h : a ≤ 18446744073709551615) : fitB a = true := by unfold fitB; rw [mostN_eq]; simpa using h
theorem told_any (A : Option Addr) (n c a : Nat) (w : World) (hN : NatV w A n a) (hn : n ≤ 1000) :
    Calls Try.prog 117 #[.agg #[.slice A n c]] w fun e w' => e = .returned (.tuple #[.int .u64 ((fit a : Nat) : Int), .int .i64 (toldE a)]) ∧ Below w.heap.size w w' := by
  by_cases hle : a ≤ mostN
  all_goals
    have hf : fit a = if a ≤ mostN then a else 0 := rfl
    have ht : toldE a = if a ≤ mostN then 0 else 10 := rfl
    have hg : fitB a = decide (a ≤ mostN) := rfl
    simp only [hle, if_true, if_false, decide_true, decide_false] at hf ht hg
    have HF := Lib.hid hf
    have HT := Lib.hid ht
    have HG := Lib.hid hg
    clear hf ht hg
    go_enter Try.func117, Try.ntmps117
    go_wp2_with fail
    refine (uint_any A n c a _ (hN.alloc _) hn).mono ?_
    rw [HG.out]
    rintro e w2 ⟨rfl, hb2⟩
    go_wp2_with fail
    go_ret2
    refine ⟨?_, (by (repeat (first | exact Below.refl _ _ | assumption | (refine Below.allocT ?_ _) | refine Below.drew ?_ | refine below_drewN ?_ _ | (refine Below.then ?_ (by assumption)) | (refine Below.setRow ?_ ?_ _; rotate_left; (focus (first | exact Nat.lt_succ_self _ | ((repeat rw [World.size_alloc]); omega) | (simp; done) | (simp; omega) | omega))) | (refine Below.setCell ?_ ?_ _; rotate_left; (focus (first | exact Nat.lt_succ_self _ | ((repeat rw [World.size_alloc]); omega) | (simp; done) | (simp; omega) | omega))) | (refine Below.then' ?_ (by assumption) ?_; rotate_left; (focus (first | exact Nat.lt_succ_self _ | ((repeat rw [World.size_alloc]); omega) | (simp; done) | (simp; omega) | omega))) | fail)); (first | done | fail))⟩
    rw [HF.out, HT.out]
    rfl
end Go.Proofs.Ytnakkjgnjffkpaa

namespace Go.Proofs.Ytnakkjgnjffkpaa
open Go.RowKit
set_option linter.unusedVariables false

def rowI (l : List Nat) : Array Value := (l.map fun d => Value.int .i64 ((d : Nat) : Int)).toArray
theorem rowI_size (l : List Nat) : (rowI l).size = l.length := by simp [rowI]
theorem rowI_get (l : List Nat) (i : Nat) (h : i < l.length) : (rowI l)[i]? = some (.int .i64 ((l.getD i 0 : Nat) : Int)) := by
  simp [rowI, h]
theorem rowI_set (l : List Nat) (i x : Nat) : (rowI l).setIfInBounds i (.int .i64 ((x : Nat) : Int)) = rowI (l.set i x) := by
  simp [rowI, List.map_set]
theorem rowI_noughts (n : Nat) : madeCells #[.int .i64 0] (n * 1) = rowI (List.replicate n 0) := by
  apply Array.ext
  · simp [rowI, madeCells]
  · intro i h1 h2
    simp [rowI, madeCells, Nat.mod_one]
theorem rowI_ints {w : World} {g : Nat} {l : List Nat} (h : row w g = some (rowI l)) : Ints w (some ⟨g, 0, none⟩) l.length (fun i => l.getD i 0) := fun _ =>
  ⟨g, rfl, row_lt h, fun i hi => by rw [row_cell h i, rowI_get l i hi]⟩
theorem run_make_ints (z : Int) (K : Nat) (hz : z = (K : Int)) (hK : K ≤ 100000) (W : World) :
    (Instr.makeSlice 34 (.int .i64 z) (.int .i64 z)).run Try.prog W = .ok (.slice (some ⟨W.heap.size, 0, none⟩) K K) (W.alloc (.cells (rowI (List.replicate K 0)) 3)) := by
  subst hz
  obtain ⟨i0, hi, hz0, hz1, hz2⟩ := info_parts int_info
  have h := run_make (P := Try.prog) W 34 3 i0 (.int .i64 0) ints_under hi hz0 .i64 .i64 (K : Int) (K : Int) (by omega) (by omega) (by rw [hz2]; omega) (by omega)
  have e : (Value.int .i64 0).cells = #[.int .i64 0] := rfl
  rw [Int.toNat_natCast, hz1, e, rowI_noughts] at h
  exact h
set_option maxHeartbeats 2000000 in
set_option maxRecDepth 100000 in
theorem muln_any (A1 A2 : Option Addr) (n1 c1 n2 c2 a b : Nat) (w : World) (hN1 : NatV w A1 n1 a) (hN2 : NatV w A2 n2 b) (h1 : n1 ≤ 400) (h2 : n2 ≤ 400) :
    Calls Try.prog 143 #[.agg #[.slice A1 n1 c1], .agg #[.slice A2 n2 c2]] w (RetNat w (a * b)) := by
  have L1 := Lib.hid hN1.1
  have L2 := Lib.hid hN2.1
  have hmk := run_make_ints ((n1 : Int) + (n2 : Int) + 1) (n1 + n2 + 1) (by omega) (by omega)
  go_enter Try.func143, Try.ntmps143
  go_wp2_with fail
  clear hmk
  have S0 : Below w.heap.size w ((((w.alloc (.cells #[.slice A1 n1 c1] 190)).alloc (.cells #[.slice A2 n2 c2] 190)).alloc (.cells #[.slice none 0 0] 190)).alloc (.cells (rowI (List.replicate (n1 + n2 + 1) 0)) 3)) := (by (repeat (first | exact Below.refl _ _ | assumption | (refine Below.allocT ?_ _) | refine Below.drew ?_ | refine below_drewN ?_ _ | (refine Below.then ?_ (by assumption)) | (refine Below.setRow ?_ ?_ _; rotate_left; (focus (first | exact Nat.lt_succ_self _ | ((repeat rw [World.size_alloc]); omega) | (simp; done) | (simp; omega) | omega))) | (refine Below.setCell ?_ ?_ _; rotate_left; (focus (first | exact Nat.lt_succ_self _ | ((repeat rw [World.size_alloc]); omega) | (simp; done) | (simp; omega) | omega))) | (refine Below.then' ?_ (by assumption) ?_; rotate_left; (focus (first | exact Nat.lt_succ_self _ | ((repeat rw [World.size_alloc]); omega) | (simp; done) | (simp; omega) | omega))) | fail)); (first | done | fail))
  have R1 : row ((((w.alloc (.cells #[.slice A1 n1 c1] 190)).alloc (.cells #[.slice A2 n2 c2] 190)).alloc (.cells #[.slice none 0 0] 190)).alloc (.cells (rowI (List.replicate (n1 + n2 + 1) 0)) 3)) w.heap.size = some #[.slice A1 n1 c1] := (by (repeat (first | assumption | (refine row_at _ _ _ _ ?_; first | rfl | (simp only [World.size_alloc]; done) | (simp only [World.size_alloc]; omega)) | (refine (row_past _ _ _ ?_).trans ?_; (focus (first | exact Nat.lt_succ_self _ | ((repeat rw [World.size_alloc]); omega) | (simp; done) | (simp; omega) | omega))) | rw [row_drewN] | rw [row_drew])); (first | done | fail))
  have R2 : row ((((w.alloc (.cells #[.slice A1 n1 c1] 190)).alloc (.cells #[.slice A2 n2 c2] 190)).alloc (.cells #[.slice none 0 0] 190)).alloc (.cells (rowI (List.replicate (n1 + n2 + 1) 0)) 3)) (w.heap.size + 1) = some #[.slice A2 n2 c2] := (by (repeat (first | assumption | (refine row_at _ _ _ _ ?_; first | rfl | (simp only [World.size_alloc]; done) | (simp only [World.size_alloc]; omega)) | (refine (row_past _ _ _ ?_).trans ?_; (focus (first | exact Nat.lt_succ_self _ | ((repeat rw [World.size_alloc]); omega) | (simp; done) | (simp; omega) | omega))) | rw [row_drewN] | rw [row_drew])); (first | done | fail))
  have R3 : row ((((w.alloc (.cells #[.slice A1 n1 c1] 190)).alloc (.cells #[.slice A2 n2 c2] 190)).alloc (.cells #[.slice none 0 0] 190)).alloc (.cells (rowI (List.replicate (n1 + n2 + 1) 0)) 3)) (w.heap.size + 2) = some #[.slice none 0 0] := (by (repeat (first | assumption | (refine row_at _ _ _ _ ?_; first | rfl | (simp only [World.size_alloc]; done) | (simp only [World.size_alloc]; omega)) | (refine (row_past _ _ _ ?_).trans ?_; (focus (first | exact Nat.lt_succ_self _ | ((repeat rw [World.size_alloc]); omega) | (simp; done) | (simp; omega) | omega))) | rw [row_drewN] | rw [row_drew])); (first | done | fail))
  have R4 : row ((((w.alloc (.cells #[.slice A1 n1 c1] 190)).alloc (.cells #[.slice A2 n2 c2] 190)).alloc (.cells #[.slice none 0 0] 190)).alloc (.cells (rowI (List.replicate (n1 + n2 + 1) 0)) 3)) (w.heap.size + 3) = some (rowI (List.replicate (n1 + n2 + 1) 0)) := (by (repeat (first | assumption | (refine row_at _ _ _ _ ?_; first | rfl | (simp only [World.size_alloc]; done) | (simp only [World.size_alloc]; omega)) | (refine (row_past _ _ _ ?_).trans ?_; (focus (first | exact Nat.lt_succ_self _ | ((repeat rw [World.size_alloc]); omega) | (simp; done) | (simp; omega) | omega))) | rw [row_drewN] | rw [row_drew])); (first | done | fail))
  go_loopw [6, 7, 8, 9] (fun ii _ _ _ wr => ∃ (i : Nat) (l : List Nat), ii = .int .i64 i ∧ i ≤ n1 ∧ Hid (l.length = n1 + n2 + 1 ∧ low l ∧ val l = a % 10 ^ i * b) ∧ Below w.heap.size w wr ∧ row wr w.heap.size = some #[.slice A1 n1 c1] ∧ row wr (w.heap.size + 1) = some #[.slice A2 n2 c2] ∧ row wr (w.heap.size + 2) = some #[.slice none 0 0] ∧ row wr (w.heap.size + 3) = some (rowI l)) (fun ii _ _ _ _ => n1 - (intOf ii).toNat)
  case atStart => exact ⟨0, List.replicate (n1 + n2 + 1) 0, rfl, by omega, Lib.hid ⟨by simp, low_noughts _, by rw [val_noughts]; simp [Nat.mod_one]⟩, S0, R1, R2, R3, R4⟩
  case round =>
    obtain ⟨i, l, rfl, hi, hl, hB, r1, r2, r3, r4⟩ := hrel
    clear S0 R1 R2 R3 R4
    have hz := row_lt r4
    have q1 : wr.cell? ⟨w.heap.size, 0, none⟩ = some (.slice A1 n1 c1) := row_cell r1 0
    by_cases hgo : i < n1
    · go_wp2_with fail
      obtain ⟨wo, rfl⟩ : ∃ wo : World, wo = wr := ⟨_, rfl⟩
      go_loopw [7, 8, 9] (fun cc kk _ wr => ∃ (k c : Nat) (l : List Nat), kk = .int .i64 k ∧ cc = .int .i64 c ∧ k ≤ n2 + 1 ∧ c ≤ 9 ∧ (n2 < k → c ≤ 0) ∧ Hid (l.length = n1 + n2 + 1 ∧ low l ∧ val l + c * 10 ^ (i + k) = a % 10 ^ i * b + dgt a i * (b % 10 ^ k) * 10 ^ i ∧ ∀ j, i + k ≤ j → l.getD j 0 = dgt (a % 10 ^ i * b) j) ∧ Below w.heap.size w wr ∧ row wr w.heap.size = some #[.slice A1 n1 c1] ∧ row wr (w.heap.size + 1) = some #[.slice A2 n2 c2] ∧ row wr (w.heap.size + 2) = some #[.slice none 0 0] ∧ row wr (w.heap.size + 3) = some (rowI l)) (fun _ kk _ _ => 1000 - (intOf kk).toNat)
      case atStart => exact ⟨0, 0, l, rfl, rfl, by omega, by omega, by omega, Lib.hid ⟨hl.out.1, hl.out.2.1, by rw [hl.out.2.2]; simp [Nat.mod_one], fun j _ => by rw [← hl.out.2.2, dgt_val hl.out.2.1]⟩, hB, r1, r2, r3, r4⟩
      case round =>
        obtain ⟨k, c, l', rfl, rfl, hk, hc, hkc, hl', hB', r1', r2', r3', r4'⟩ := hrel
        clear hl hB r1 r2 r3 r4 hz q1
        have hz := row_lt r4'
        have q1 : wr.cell? ⟨w.heap.size, 0, none⟩ = some (.slice A1 n1 c1) := row_cell r1' 0
        have q2 : wr.cell? ⟨w.heap.size + 1, 0, none⟩ = some (.slice A2 n2 c2) := row_cell r2' 0
        by_cases hgo2 : k < n2 ∨ 0 < c
        · have hk2 : k ≤ n2 := by omega
          obtain ⟨g, rfl, hg, hcell⟩ := (hN1.stay hB').2 (by omega)
          have hci := hcell i hgo
          have hA' : ∀ nq, NatV (wr.drewN nq) A2 n2 b := fun nq => (hN2.stay hB').drewN nq
          have b1 := dgt_lt a i
          have b2 := dgt_lt b k
          have b3 := low_getD hl'.out.2.1 (i + k)
          have b4 := pq_le b1 b2
          have hlen : i + k < l'.length := by have := hl'.out.1; omega
          have hck : wr.cell? ⟨w.heap.size + 3, i + k, none⟩ = some (.int .i64 ((l'.getD (i + k) 0 : Nat) : Int)) := (row_cell r4' _).trans (rowI_get l' (i + k) hlen)
          have hfk : wr.frozen? ⟨w.heap.size + 3, i + k, none⟩ = false := row_frozen r4' _
          generalize hx : l'.getD (i + k) 0 = x at *
          have HX := Lib.hid hx
          clear hx hcell
          obtain ⟨p, hp⟩ : ∃ p, p = dgt a i * dgt b k := ⟨_, rfl⟩
          rw [← hp] at b4
          have e0 : IntKind.i64.wrap ((i : Int) + (k : Int)) = (i : Int) + (k : Int) := IntWalk.i64_in _ (by omega)
          have e1 : IntKind.i64.wrap ((dgt a i : Int) * (dgt b k : Int)) = (p : Int) := by
            rw [hp, Int.natCast_mul]; exact IntWalk.i64_in _ (by rw [← Int.natCast_mul, ← hp]; omega)
          have HP := Lib.hid hp
          clear hp
          have e2 : IntKind.i64.wrap ((x : Int) + (p : Int)) = (x : Int) + (p : Int) := IntWalk.i64_in _ (by omega)
          have e3 : IntKind.i64.wrap ((x : Int) + (p : Int) + (c : Int)) = (x : Int) + (p : Int) + (c : Int) := IntWalk.i64_in _ (by omega)
          have e4 : ((i : Int) + (k : Int)).toNat = i + k := by omega
          have f1 : (i : Int) < (n1 : Int) := by omega
          have f2 : (i : Int) + (k : Int) < ((n1 + n2 + 1 : Nat) : Int) := by omega
          have f3 : 0 ≤ (i : Int) + (k : Int) := by omega
          have f4 : (i : Int) + (k : Int) < (n1 : Int) + (n2 : Int) + 1 := by omega
          clear hN1 hN2
          by_cases hk3 : k < n2
          all_goals
            go_wp2_with fail
            go_quiet ((go_at_call 160; exact Calls.quiet_of_same (at_dg _ _ _ _ k _ (hA' _) (by omega) (by omega))))
            clear e0 e1 e2 e3
            go_wp2_with fail
            have hzz : ((x : Int) + (p : Int) + (c : Int)) % 10 = (((x + p + c) % 10 : Nat) : Int) := by omega
            have s4 : row ((wr.drewN nq).setCell ⟨w.heap.size + 3, i + k, none⟩ (.int .i64 (((x : Int) + (p : Int) + (c : Int)) % 10))) (w.heap.size + 3) = some (rowI (l'.set (i + k) ((x + p + c) % 10))) := by
              rw [hzz]
              exact (row_set (w := wr.drewN nq) r4' (i + k) _).trans (congrArg some (rowI_set _ _ _))
            refine ⟨⟨k + 1, (x + p + c) / 10, l'.set (i + k) ((x + p + c) % 10), by go_num, congrArg (Value.int IntKind.i64) (by omega), by omega, by omega, ?_, Lib.hid ⟨by simp [hl'.out.1], low_set hl'.out.2.1 (by omega), ?_, ?_⟩, ?_, ?_, ?_, ?_, s4⟩, by simp [intOf]; omega⟩
            · intro hn
              have hb0 : dgt b k = 0 := dgt_of_len (by have := L2.out; omega)
              have hp0 := HP.out
              rw [hb0] at hp0
              have hx0 := hl'.out.2.2.2 (i + k) (Nat.le_refl _)
              rw [dgt_mul_high (n2 := n2) L2.out.symm (by omega), HX.out] at hx0
              simp at hp0
              omega
            · exact mul_step (x := x) (c := c) (p := dgt a i) (q := dgt b k) (s := x + p + c) (by rw [HP.out]) (by have := val_set l' (i + k) ((x + p + c) % 10) hlen; rw [HX.out] at this; exact this) (b % 10 ^ k) (b % 10 ^ (k + 1)) (mod_pow_succ b k) hl'.out.2.2.1
            · intro j hj
              rw [← hl'.out.2.2.2 j (by omega)]
              simp [List.getD_eq_getElem?_getD, List.getElem?_set_ne (show i + k ≠ j by omega)]
            · exact Below.setCell (below_drewN hB' nq) (p := ⟨w.heap.size + 3, i + k, none⟩) (by show w.heap.size ≤ w.heap.size + 3; omega) _
            · exact (row_far (wr.drewN nq) ⟨w.heap.size + 3, i + k, none⟩ _ _ (by show w.heap.size ≠ w.heap.size + 3; omega)).trans r1'
            · exact (row_far (wr.drewN nq) ⟨w.heap.size + 3, i + k, none⟩ _ _ (by show w.heap.size + 1 ≠ w.heap.size + 3; omega)).trans r2'
            · exact (row_far (wr.drewN nq) ⟨w.heap.size + 3, i + k, none⟩ _ _ (by show w.heap.size + 2 ≠ w.heap.size + 3; omega)).trans r3'
        · obtain rfl : c = 0 := by omega
          have hk3 : ¬ k < n2 := by omega
          go_wp2_with fail
          refine ⟨⟨i + 1, l', by go_num, by omega, Lib.hid ⟨hl'.out.1, hl'.out.2.1, ?_⟩, hB', r1', r2', r3', r4'⟩, by simp [intOf]; omega⟩
          have h0 := hl'.out.2.2.1
          rw [mod_of_len (n := b) (i := k) (by have := L2.out; omega), Nat.zero_mul, Nat.add_zero, mul_round] at h0
          exact h0
    · obtain rfl : i = n1 := by omega
      have hv : val l = a * b := by
        have := hl.out.2.2
        rw [mod_of_len (n := a) (i := i) (by have := L1.out; omega)] at this
        exact this
      have hI := rowI_ints r4
      have hlen := hl.out.1
      rw [hlen] at hI
      go_wp2_with fail
      refine (trim_any (some ⟨w.heap.size + 3, 0, none⟩) l (i + n2 + 1) (i + n2 + 1) _ hl.out.2.1 hlen hI (Nat.le_refl _) (by omega)).mono ?_
      rw [hv]
      rintro e w2 ⟨rfl, hb2, hN⟩
      have r3' := (row_below hb2 (g := w.heap.size + 2) (by omega)).trans r3
      have hz2 := row_lt r3'
      have q3 : w2.cell? ⟨w.heap.size + 2, 0, none⟩ = some (.slice none 0 0) := row_cell r3' 0
      have q4 : w2.frozen? ⟨w.heap.size + 2, 0, none⟩ = false := row_frozen r3' 0
      have HF := Lib.hid (hN.far (B := w.heap.size + 3) (by rintro x hx; cases hx; exact Nat.le_refl _) (p := ⟨w.heap.size + 2, 0, none⟩) (by simp) (.slice (some ⟨w.heap.size + 3, 0, none⟩) (dg (a * b)).length (i + n2 + 1)))
      clear hN hI q1 r1 r2 r3 r3' r4 hgo hv hlen
      go_wp2_with fail
      refine bodyPost_ret (v := .agg #[.slice (some ⟨w.heap.size + 3, 0, none⟩) (dg (a * b)).length (i + n2 + 1)]) (by simp [results, Try.results143, go_sem, q3]) rfl ⟨_, _, rfl, HF.out, ?_, fun x hx => by cases hx; show w.heap.size ≤ w.heap.size + 3; omega⟩
      exact (Below.then hB hb2).setCell (p := ⟨w.heap.size + 2, 0, none⟩) (by show w.heap.size ≤ w.heap.size + 2; omega) _
end Go.Proofs.Ytnakkjgnjffkpaa
