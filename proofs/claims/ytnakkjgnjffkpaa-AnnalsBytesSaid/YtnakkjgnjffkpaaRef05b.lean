/-
  What bullionref05's reader does.
-/
import Derived.Test.YtnakkjgnjffkpaaRef05
namespace Go.Proofs.Ytnakkjgnjffkpaa
open Go.RowKit
set_option linter.unusedVariables false

def rfC (A : Option Addr) (c : Nat) (s : Rd) : Array Value := #[.slice A s.xs.length c, .int .i64 (s.at_ : Int), .int .i64 s.e]
abbrev RfAt := RdAtC rfC
abbrev RfPost := RdPostC rfC
set_option maxRecDepth 100000 in
set_option maxHeartbeats 4000000 in
theorem fnum_any (g : Nat) (A : Option Addr) (c : Nat) (s : Rd) (hs : s.Ok) (most : Nat) (hmost : most < 18446744073709551616) (w : World) (hR : RfAt w g A c s) :
    Calls Try.prog 77 #[.pointer (some ⟨g, 0, none⟩), .int .u64 most] w (RfPost w g A c (.int .u64 (((s.num most).1 : Nat) : Int)) (s.num most).2) := by
  have HR := Lib.hid hR
  have c0 : w.cell? ⟨g, 0, none⟩ = some (.slice A s.xs.length c) := hR.cells 0
  have c1 : w.cell? ⟨g, 1, none⟩ = some (.int .i64 (s.at_ : Int)) := hR.cells 1
  have c2 : w.cell? ⟨g, 2, none⟩ = some (.int .i64 s.e) := hR.cells 2
  have f1 : w.frozen? ⟨g, 1, none⟩ = false := hR.free 1
  have f2 : w.frozen? ⟨g, 2, none⟩ = false := hR.free 2
  by_cases h0 : s.e = 0
  · have HB := Lib.hid hR.bys
    have HX := Lib.hid hs.ok
    have hm := hs.len
    have hat := hs.at_
    have HM := Lib.hid (fun h1 h2 => Rd.num_more (s := s) h0 h1 (most := most) h2)
    have HGd := Lib.hid (fun h1 h2 => Rd.num_good (s := s) h0 h1 (most := most) h2)
    have HFl := Lib.hid (fun h1 => Rd.num_fail (s := s) h0 h1 most)
    have HS0 : Hid (s.scan = scanL (s.xs.drop (s.at_ + 0)) 0 0) := Lib.hid rfl
    have HE := Lib.hid h0
    have HT : Hid (s.at_ = s.at_) := Lib.hid rfl
    rw [h0] at c2
    obtain ⟨a, ha⟩ : ∃ a, a = s.at_ := ⟨_, rfl⟩
    obtain ⟨n, hn⟩ : ∃ n, n = s.xs.length := ⟨_, rfl⟩
    have HA := Lib.hid ha
    have HN := Lib.hid hn.symm
    rw [← ha] at c1 HS0 hat
    rw [← hn] at c0 hm hat
    clear h0 hs hR ha hn HT
    go_enter Try.func77, Try.ntmps77
    go_wp2_with fail
    go_loop [5, 6, 7] (fun v u i => ∃ k acc : Nat, i = .int .i64 ((a + k : Nat) : Int) ∧ v = .int .u64 acc ∧ u = .int .u64 ((128 ^ k : Nat) : Int) ∧ k ≤ 9 ∧ Hid (acc < 128 ^ k) ∧ acc < 18446744073709551616 ∧ a + k ≤ n ∧ Hid (s.scan = scanL (s.xs.drop (a + k)) k acc)) (fun _ _ i => n - (intOf i).toNat)
    case atStart => exact ⟨0, 0, rfl, rfl, rfl, by omega, Lib.hid (by omega), by omega, by omega, HS0.out⟩
    case round =>
      obtain ⟨k, acc, rfl, rfl, rfl, hk, hac1, hac, hle, hS⟩ := hrel
      by_cases hlt : a + k < n
      · obtain ⟨b0, off, rfl, hb0, hcell⟩ := HB.out (by rw [HN.out]; omega)
        have hc := hcell (a + k) (by rw [HN.out]; exact hlt)
        have hbx := HX.out (a + k)
        have hd := drop_cons (xs := s.xs) (i := a + k) (by rw [HN.out]; exact hlt)
        have hS2 := hS.out
        rw [hd] at hS2
        generalize s.xs.getD (a + k) 0 = b at *
        have HS := Lib.hid hS2
        have z1 : (a : Int) + (k : Int) < (n : Int) := by omega
        have z2 : (0 : Int) ≤ (a : Int) + (k : Int) := by omega
        have z3 : ((a : Int) + (k : Int)).toNat = a + k := by omega
        clear hcell hd hS2 hS HX HB HS0
        by_cases hbad : (k = 9 ∧ 1 < b) ∨ (b = 0 ∧ 0 < k)
        · have HR2 := Lib.hid (HS.out.trans (scanL_bad hbad))
          have HV : Hid (s.num most = (0, ⟨s.xs, s.at_, 51⟩)) := Lib.hid (by have := HFl.out (by rw [HR2.out]; decide); rw [this, HR2.out])
          generalize (128 : Nat) ^ k = u at *
          clear HS hac1 HM HGd HFl
          rcases hbad with ⟨rfl, hb1⟩ | ⟨rfl, hk0⟩
          · have y1 : (1 : Int) < (b : Int) := by omega
            clear hb1
            go_wp2_with fail
            go_ret
            exact RdPostC.of_turn ⟨s.xs, s.at_, 51⟩ HR.out (only_set g 2 _) (row_set HR.out.row 2 _) rfl (by rw [HV.out]) (by rw [HV.out]; rfl)
          · by_cases h9 : k = 9
            · subst h9
              have y2 : (a : Int) < (a : Int) + 9 := by omega
              go_wp2_with fail
              go_ret
              exact RdPostC.of_turn ⟨s.xs, s.at_, 51⟩ HR.out (only_set g 2 _) (row_set HR.out.row 2 _) rfl (by rw [HV.out]) (by rw [HV.out]; rfl)
            · have k1 : ((a : Int) + (k : Int) == (a : Int) + 9) = false := beq_eq_false_iff_ne.2 (by omega)
              have k3 : ((k : Int) == 9) = false := beq_eq_false_iff_ne.2 (by omega)
              have k2 : (a : Int) < (a : Int) + (k : Int) := by omega
              clear h9
              go_wp2_with fail
              go_ret
              exact RdPostC.of_turn ⟨s.xs, s.at_, 51⟩ HR.out (only_set g 2 _) (row_set HR.out.row 2 _) rfl (by rw [HV.out]) (by rw [HV.out]; rfl)
        · have hp := pow128_bound hk hac1.out (b := b) (fun h => hbad (.inl h))
          clear HFl
          by_cases h9 : k = 9
          · subst h9
            obtain rfl : b = 1 := by omega
            have HR2 := Lib.hid (HS.out.trans (scanL_end hbad (by omega)))
            have e9 : (1 % 128 * 128 ^ 9 : Nat) = 9223372036854775808 := by decide
            have e9' : (128 ^ 9 : Nat) = 9223372036854775808 := by decide
            rw [e9] at HR2 hp
            have hp2 := hp.2
            rw [e9']
            have hc' : w.cell? ⟨b0, off + (a + 9), none⟩ = some (.int .u8 1) := hc
            have z1' : (a : Int) + 9 < (n : Int) := by omega
            have z2' : (0 : Int) ≤ (a : Int) + 9 := by omega
            have z3' : ((a : Int) + 9).toNat = a + 9 := by omega
            have z4 : ((a : Int) + 9 == (a : Int) + 9) = true := beq_self_eq_true _
            have S9 : IntKind.u64.wrap 9223372036854775808 = 9223372036854775808 := by decide
            clear hp HS hbad e9 e9' hac1 hc z1 z2 z3
            by_cases hmo : most < acc + 9223372036854775808
            · have HV := Lib.hid (HM.out (by rw [HR2.out]) (by rw [HR2.out]; exact hmo))
              have m1 : (most : Int) < (acc : Int) + 9223372036854775808 := by omega
              clear hmo HM HGd
              go_wp2_with fail
              go_ret
              exact RdPostC.of_turn ⟨s.xs, s.at_, 51⟩ HR.out (only_set g 2 _) (row_set HR.out.row 2 _) rfl (by rw [HV.out]) (by rw [HV.out]; rfl)
            · have HV := Lib.hid (HGd.out (by rw [HR2.out]) (by rw [HR2.out]; show acc + 9223372036854775808 ≤ most; omega))
              rw [HR2.out, ← HA.out] at HV
              have m1 : ¬ (most : Int) < (acc : Int) + 9223372036854775808 := by omega
              clear hmo HM HGd
              go_wp2_with fail
              go_ret
              exact RdPostC.of_turn ⟨s.xs, a + 10, 0⟩ HR.out (only_set g 1 _) ((row_set HR.out.row 1 _).trans (by unfold rfC; rw [HE.out]; rfl)) rfl (by rw [HV.out]) (by rw [HV.out]; rfl)
          · have k1 : ((a : Int) + (k : Int) == (a : Int) + 9) = false := beq_eq_false_iff_ne.2 (by omega)
            have k3 : ((k : Int) == 9) = false := beq_eq_false_iff_ne.2 (by omega)
            by_cases hb0 : b = 0
            · subst hb0
              obtain rfl : k = 0 := by omega
              have hac0 := hac1.out
              obtain rfl : acc = 0 := by omega
              have HR2 := Lib.hid (HS.out.trans (scanL_end hbad (by omega)))
              have HV := Lib.hid (HGd.out (by rw [HR2.out]) (by rw [HR2.out]; simp))
              rw [HR2.out, ← HA.out] at HV
              have hc' : w.cell? ⟨b0, off + a, none⟩ = some (.int .u8 0) := hc
              have z1' : (a : Int) < (n : Int) := by omega
              have m1 : ¬ (most : Int) < 0 := by omega
              have k4 : ((a : Int) == (a : Int) + 9) = false := beq_eq_false_iff_ne.2 (by omega)
              have k5 : ¬ (a : Int) < (a : Int) := by omega
              clear hp HS hbad h9 hac0 hac1 hc z1 z2 z3 k1 k3 HM HGd
              go_wp2_with fail
              go_ret
              exact RdPostC.of_turn ⟨s.xs, a + 1, 0⟩ HR.out (only_set g 1 _) ((row_set HR.out.row 1 _).trans (by unfold rfC; rw [HE.out]; rfl)) rfl (by rw [HV.out]) (by rw [HV.out]; rfl)
            · have k2 : ((b : Int) == 0) = false := beq_eq_false_iff_ne.2 (by omega)
              have E0 : (b : Int) % 128 = ((b % 128 : Nat) : Int) := by omega
              have hp2 := hp.2
              have HP1 := Lib.hid hp.1
              have hz : b % 128 < 128 := by omega
              have hu : (128 : Nat) ^ k * 128 < 18446744073709551616 := by
                have h2 : (128 : Nat) ^ k ≤ 128 ^ 8 := Nat.pow_le_pow_right (by omega) (by omega)
                have h4 : (128 : Nat) ^ 8 = 72057594037927936 := by decide
                rw [h4] at h2
                omega
              have HU : Hid ((128 : Nat) ^ (k + 1) = 128 ^ k * 128) := Lib.hid (Nat.pow_succ ..)
              by_cases hb8 : b < 128
              · have HR2 := Lib.hid (HS.out.trans (scanL_end hbad hb8))
                have z4 : (b : Int) < 128 := by omega
                generalize b % 128 = z at *
                generalize (128 : Nat) ^ k = u at *
                have E2 : (z : Int) * (u : Int) = ((z * u : Nat) : Int) := by rw [Int.natCast_mul]
                generalize z * u = q at *
                clear hp hbad hb0 hb8 h9 HS HU HP1 hac1
                by_cases hmo : most < acc + q
                · have HV := Lib.hid (HM.out (by rw [HR2.out]) (by rw [HR2.out]; exact hmo))
                  have m1 : (most : Int) < (acc : Int) + (q : Int) := by omega
                  clear hmo HM HGd
                  go_wp2_with fail
                  go_ret
                  exact RdPostC.of_turn ⟨s.xs, s.at_, 51⟩ HR.out (only_set g 2 _) (row_set HR.out.row 2 _) rfl (by rw [HV.out]) (by rw [HV.out]; rfl)
                · have HV := Lib.hid (HGd.out (by rw [HR2.out]) (by rw [HR2.out]; show acc + q ≤ most; omega))
                  rw [HR2.out, ← HA.out] at HV
                  have m1 : ¬ (most : Int) < (acc : Int) + (q : Int) := by omega
                  clear hmo HM HGd
                  go_wp2_with fail
                  go_ret
                  exact RdPostC.of_turn ⟨s.xs, a + (k + 1), 0⟩ HR.out (only_set g 1 _) ((row_set HR.out.row 1 _).trans (by unfold rfC; rw [HE.out]; simp; omega)) rfl (by rw [HV.out]) (by rw [HV.out]; first | rfl | simp)
              · have HR2 := Lib.hid (HS.out.trans (scanL_more hbad hb8))
                have z4 : ¬ (b : Int) < 128 := by omega
                have hk9 : k + 1 ≤ 9 := by omega
                generalize b % 128 = z at *
                generalize (128 : Nat) ^ k = u at *
                have E2 : (z : Int) * (u : Int) = ((z * u : Nat) : Int) := by rw [Int.natCast_mul]
                generalize z * u = q at *
                clear hp hbad hb0 hb8 h9 HS hac1 HM HGd
                go_wp2_with fail
                exact ⟨⟨k + 1, acc + q, by go_num, by first | rfl | go_num, by rw [HU.out]; first | rfl | go_num, hk9, Lib.hid HP1.out, hp2, by omega, Lib.hid (by rw [HR2.out, Nat.add_assoc])⟩, by simp [intOf]; omega⟩
      · have HR2 := Lib.hid (hS.out.trans (by rw [List.drop_eq_nil_of_le (by rw [HN.out]; omega), scanL_nil]))
        have HV : Hid (s.num most = (0, ⟨s.xs, s.at_, 50⟩)) := Lib.hid (by have := HFl.out (by rw [HR2.out]; decide); rw [this, HR2.out])
        have z1 : ¬ (a : Int) + (k : Int) < (n : Int) := by omega
        generalize (128 : Nat) ^ k = u at *
        clear HM HGd HFl HS0
        go_wp2_with fail
        go_ret
        exact RdPostC.of_turn ⟨s.xs, s.at_, 50⟩ HR.out (only_set g 2 _) (row_set HR.out.row 2 _) rfl (by rw [HV.out]) (by rw [HV.out]; rfl)
  · have HV : Hid (s.num most = (0, s)) := Lib.hid (Rd.num_bad h0 most)
    have e1 : (s.e != 0) = true := bne_iff_ne.2 h0
    clear hs hR c0 c1 f1 f2 h0
    go_enter Try.func77, Try.ntmps77
    go_wp2_with fail
    go_ret
    exact RdPostC.of_same HR.out (by rw [HV.out]) (by rw [HV.out]; rfl)
end Go.Proofs.Ytnakkjgnjffkpaa
