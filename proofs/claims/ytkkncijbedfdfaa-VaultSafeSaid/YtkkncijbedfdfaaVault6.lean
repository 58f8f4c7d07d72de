/-
  Bytes read out of sectors: (*vault.Vault).read; where an area begins.
-/
import Derived.Test.YtkkncijbedfdfaaVault1
import Derived.Test.YtkkncijbedfdfaaVault2
import Derived.Test.YtkkncijbedfdfaaCoder5
namespace Go.Proofs.Ytkkncijbedfdfaa
open Go.RowKit
set_option linter.unusedVariables false

theorem begin_any (gv room a : Nat) (ha : a ≤ 1) (hr : room ≤ 100000) (w : World) (c6 : w.cell? ⟨gv, 6, none⟩ = some (.int .i64 (room : Int))) : Calls Try.prog 29 #[.pointer (some ⟨gv, 0, none⟩), .int .i64 (a : Int)] w fun e w' => e = .returned (.int .i64 ((begA room a : Nat) : Int)) ∧ w = w' := by
  have HE : Hid (((begA room a : Nat) : Int) = 2 + (a : Int) * (room : Int)) := Lib.hid (by unfold begA; simp)
  have hm : (a : Int) * (room : Int) ≤ 100000 ∧ 0 ≤ (a : Int) * (room : Int) := by
    rcases area_cases ha with rfl | rfl <;> simp <;> omega
  rw [HE.out]
  generalize hp : (a : Int) * (room : Int) = p at *
  have e1 : IntKind.i64.wrap p = p := IntWalk.i64_in _ (by omega)
  have e2 : IntKind.i64.wrap (2 + p) = 2 + p := IntWalk.i64_in _ (by omega)
  clear HE ha hr
  go_enter Try.func29, Try.ntmps29
  go_wp2_with fail
  go_ret
  exact ⟨rfl, rfl⟩
theorem flatS_succ (S : List Sec) (o k : Nat) : flatS S o (k + 1) = flatS S o k ++ (secAt S (o + k)).1 := by
  unfold flatS
  rw [List.range_succ, List.flatMap_append]
  simp
theorem flatS_len (S : List Sec) (o k : Nat) : (flatS S o k).length = k * 64 := flat64_len (fun j => secAt S (o + j)) k
theorem Bys.takeN {W : World} {A : Option Addr} {xs : List Nat} (h : Bys W A xs) (n : Nat) : Bys W A (xs.take n) := fun hp => by
  rw [List.length_take] at hp
  obtain ⟨b, off, e, hb, hc⟩ := h (by omega)
  refine ⟨b, off, e, hb, fun i hi => ?_⟩
  rw [List.length_take] at hi
  rw [hc i (by omega), List.getD_eq_getElem?_getD, List.getD_eq_getElem?_getD, List.getElem?_take_of_lt (by omega)]
def VReadPost (w : World) (n : Nat) (bs : List Nat) (e : Ending) (w' : World) : Prop := ∃ A c, e = .returned (.tuple #[.slice A n c, .int .i64 0]) ∧ Bys w' A bs ∧ bs.length = n ∧ (∀ a, A = some a → w.heap.size ≤ a.block) ∧ Below w.heap.size w w'
set_option maxHeartbeats 4000000 in
set_option maxRecDepth 100000 in
theorem vread_any (gv g gs : Nat) (pv : Value) (A : Option Addr) (c : Nat) (s : Ps) (hd : s.down = false) (hp : s.pend = []) (o n : Nat) (hn : n ≤ 10000000) (ho : o + secs n ≤ s.sure.length) (w : World) (h5 : w.cell? ⟨gv, 5, none⟩ = some (.pointer (some ⟨g, 0, none⟩))) (hgv : gv < w.heap.size) (h : PlAt w g gs pv A c s) :
    Calls Try.prog 37 #[.pointer (some ⟨gv, 0, none⟩), .int .i64 (o : Int), .int .i64 (n : Int)] w (VReadPost w n ((flatS s.sure o (secs n)).take n)) := by
  have hsn : n ≤ secs n * 64 := by unfold secs; omega
  have hfs := h.fews
  have HRd : Hid (∀ W (z : Int) (j : Nat), z = ((o + j : Nat) : Int) → j < secs n → Below w.heap.size w W → Calls Try.prog 35 #[.pointer (some ⟨g, 0, none⟩), .int .i64 z] W (ReadPost8 W (secAt s.sure (o + j)))) := Lib.hid fun W z j hz hj hb => by
    subst hz
    have hl : o + j < s.sure.length := by omega
    have hrd := read_any g gs pv A c s (o + j) _ (List.getElem?_eq_getElem hl) hd W (h.stay hb)
    rw [hp, seen, ← secAt_of (List.getElem?_eq_getElem hl)] at hrd
    exact hrd
  have HS := Lib.hid (sectors_any n (by omega) w)
  have H5 : Hid (∀ W, Below w.heap.size w W → W.cell? ⟨gv, 5, none⟩ = some (.pointer (some ⟨g, 0, none⟩))) := Lib.hid fun W hb => (hb.cell (p := ⟨gv, 5, none⟩) hgv).trans h5
  have HN := Lib.hid hsn
  clear h h5 hp hd hsn
  go_enter Try.func37, Try.ntmps37
  go_wp2_with fail
  refine (HS.out).mono ?_
  rintro e w1 ⟨rfl, rfl⟩
  clear HS
  have hk1 : secs n ≤ 16384 := by omega
  have HK : Hid (∃ k, k = secs n) := Lib.hid ⟨_, rfl⟩
  obtain ⟨k, hk⟩ := HK.out
  rw [← hk] at HRd ho hk1 HN ⊢
  have HEk := Lib.hid hk
  clear HK hk
  go_wp2_with fail
  go_loopw [8, 14] (fun v i wr => ∃ j : Nat, i = .int .i64 j ∧ j ≤ k ∧ Hid (OwnB wr v (flatS s.sure o j) ∧ (∀ q, v.ownBlock = some q → w.heap.size ≤ q) ∧ Below w.heap.size w wr)) (fun _ i _ => k - (intOf i).toNat)
  case atStart => exact ⟨0, rfl, by omega, Lib.hid ⟨OwnB.nil _, (fun q hq => by cases hq), Below.refl _ _⟩⟩
  case round =>
    obtain ⟨j, rfl, hj, hH⟩ := hrel
    by_cases hlt : j < k
    · have k5 := H5.out _ hH.out.2.2
      have E1 : IntKind.i64.wrap ((o : Int) + (j : Int)) = (o : Int) + (j : Int) := IntWalk.i64_in _ (by omega)
      have z1 : (j : Int) < (k : Int) := by omega
      go_wp2_with fail
      refine (HRd.out _ _ j (by omega) hlt hH.out.2.2).mono ?_
      rintro e w2 ⟨B, cB, rfl, hO, hnew, hb2⟩
      have hO2 := hH.out.1.stay hb2
      have hB2 := Below.then hH.out.2.2 hb2
      have HF := Lib.hid (flatS_succ s.sure o j)
      have hfl := flatS_len s.sure o j
      have hw := Lib.hid hH.out.2.1
      generalize secAt s.sure (o + j) = d at *
      have hBy : Bys w2 B d.1 := by
        obtain ⟨A', c', e, hb, _⟩ := hO.form
        rw [Value.slice.injEq] at e
        rw [e.1]; exact hb
      have HO2 := Lib.hid hO2
      have HB2 := Lib.hid hB2
      have HBy := Lib.hid hBy
      clear hO hnew hb2 hO2 hB2 hBy hH k5
      go_wp2_with (at_builtin; refine wpList_appb rfl _ _ rfl _ (flatS s.sure o j) d.1 B 64 cB HO2.out HBy.out rfl rfl d.2 (by rw [d.2, hfl]; omega) ?_; intro v' w3 hA)
      have HNx : Hid (OwnB w3 v' (flatS s.sure o (j + 1)) ∧ (∀ q, v'.ownBlock = some q → w.heap.size ≤ q) ∧ Below w.heap.size w w3) := Lib.hid ⟨by rw [HF.out]; exact hA.1, fun q hq => by
        rcases hA.2.2 with e | e
        · exact hw.out q (by rw [← e]; exact hq)
        · rw [e] at hq; cases hq; exact HB2.out.size, HB2.out.trans (Chg.toBelow hA.chg (fun q hq => hw.out q hq) HB2.out.size)⟩
      clear hA
      exact ⟨⟨j + 1, by go_num, by omega, HNx⟩, by simp [intOf]; omega⟩
    · obtain rfl : j = k := by omega
      obtain ⟨A3, c3, rfl, hBy, hl1, hl2, hl3, hown⟩ := hH.out.1.form
      have hfl := flatS_len s.sure o j
      have hle := HN.out
      have HBt := Lib.hid (hBy.takeN n)
      have HBl := Lib.hid hH.out.2.2
      have HNw : Hid (∀ a, A3 = some a → w.heap.size ≤ a.block) := Lib.hid fun a ha => hH.out.2.1 _ (hown a ha)
      have HLn : Hid (((flatS s.sure o j).take n).length = n) := Lib.hid (by rw [List.length_take]; omega)
      have hnc : n ≤ c3 := by omega
      have hnc2 : (n : Int) ≤ (c3 : Int) := by omega
      clear hBy hl1 hown hH hle
      go_wp2_with fail
      go_ret2
      rw [← HEk.out]
      exact ⟨_, _, rfl, HBt.out, HLn.out, HNw.out, HBl.out⟩
end Go.Proofs.Ytkkncijbedfdfaa
