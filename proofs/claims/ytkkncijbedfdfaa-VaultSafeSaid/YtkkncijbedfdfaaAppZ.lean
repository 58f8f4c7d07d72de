/-
  append(out, make([]byte, k)...): zeros behind bytes that a call owns.
-/
import Derived.Test.YtkkncijbedfdfaaBytes
import Derived.Test.YtkkncijbedfdfaaSlices
import Derived.Lib.AppendZerosOnto
import Derived.Maps.AppendAt
namespace Go.Proofs.Ytkkncijbedfdfaa
open Go.RowKit
set_option linter.unusedVariables false

theorem zcells (k : Nat) : Builtin.zeroCells (Value.int .u8 0).cells k = (List.replicate k (Value.int .u8 0)).toArray := by
  unfold Builtin.zeroCells
  rw [show (Value.int .u8 0).cells = #[Value.int .u8 0] from rfl]
  refine Array.ext (by simp) fun i h1 h2 => ?_
  simp [Nat.mod_one]
theorem zmap (k : Nat) : ((List.replicate k 0).map fun x : Nat => Value.int .u8 ((x : Nat) : Int)) = List.replicate k (Value.int .u8 0) := by
  rw [List.map_replicate]; rfl
theorem int_underZ : Try.prog.underlying 3 = some (.int .i64) := by kernel_rfl
theorem run_appz {W : World} {v : Value} {l : List Nat} (h : OwnB W v l) (hne : 0 < l.length) (ty : TypeId) (k : Nat) (h0 : 0 < k) (hlen : l.length + k ≤ 1000000) :
    ∃ v' W', (Builtin.append_ #[22, 3] ty #[v, .int .i64 (k : Int)]).run Try.prog W = .ok v' W' ∧ Appended W v l (List.replicate k 0) v' W' := by
  obtain ⟨i0, hi, hz0, hz1, hz2⟩ := info_parts u8_info
  have hw : IntKind.i64.wrap (k : Int) = k := by rw [IntKind.wrap_i64]; omega
  have hown := h
  rcases h.2 with ⟨rfl, h0'⟩ | ⟨g, cap, cur, rfl, hbg, hg, hnc, hcm, hcs, htake⟩
  · omega
  have hl2 : (l ++ List.replicate k 0).length = l.length + k := by rw [List.length_append, List.length_replicate]
  have hm2 : ((l ++ List.replicate k 0).map fun x : Nat => Value.int .u8 ((x : Nat) : Int)) = (l.map fun x : Nat => Value.int .u8 ((x : Nat) : Int)) ++ List.replicate k (Value.int .u8 0) := by rw [List.map_append, zmap]
  by_cases hroom : l.length + k ≤ cap
  · have hfit : l.length * 1 + (List.replicate k (Value.int .u8 0)).length ≤ cur.size := by rw [List.length_replicate, hcs]; omega
    have hst := run_storeCells_at Try.prog g (l.length * 1) 5 (List.replicate k (Value.int .u8 0)) 0 cur W hg (by simpa using hfit) (fun u hu => by rw [List.eq_of_mem_replicate hu]; rfl)
    simp only [Nat.add_zero] at hst
    have hneg : ¬ ((k : Int) < 0) := by omega
    have h48i : ¬ (281474976710656 < (k : Int) * (i0.bytes : Int)) := by rw [hz2]; omega
    have hk0 : ¬ (k = 0) := by omega
    refine ⟨.slice (some ⟨g, 0, none⟩) (l.length + k) cap, W.setRow g (cur.toList.take (l.length * 1) ++ List.replicate k (Value.int .u8 0) ++ cur.toList.drop (l.length * 1 + (List.replicate k (Value.int .u8 0)).length)).toArray, ?_, ?_, ⟨rfl, rfl, rfl, by simp, fun q _ hk => setRow_other W g q _ (fun e => hk (by simp [Value.ownBlock, e]))⟩, .inl rfl⟩
    · simp [Builtin.append_, run_underlying u8s_under, run_underlying int_underZ, sizeOf, typeInfo, zeroValue, hi, hz0, hz1, asInt, asIntOf, hw, hroom, hneg, hk0, h48i, zcells, Addr.add_lit] at hst ⊢
      simp [hst]
    · unfold OwnB
      rw [hl2, hm2]
      refine ⟨by simp, .inr ⟨g, cap, _, rfl, hbg, setRow_heap W g cur _ 5 _ hg, hroom, hcm, ?_, ?_⟩⟩
      · simp only [List.size_toArray, List.length_append, List.length_take, List.length_drop, Array.length_toList, List.length_replicate]
        omega
      · have e1 : ((l.map fun x : Nat => Value.int .u8 ((x : Nat) : Int)) ++ List.replicate k (Value.int .u8 0)).length = (l.length + k) * 1 := by simp
        rw [htake, ← e1]
        exact List.take_left
  · have hfo := run_firstCells_some (P := Try.prog) W.drew 1 l.length ⟨g, 0, none⟩ l.length cap (l.map fun x : Nat => Value.int .u8 ((x : Nat) : Int)) (by simp) (by simpa using hown.cells (g := g) rfl)
    have hr := Lib.run_append_grow_zeros (P := Try.prog) W 22 3 ty 5 i0 (.int .u8 0) .i64 .i64 u8s_under int_underZ hi hz0 (some ⟨g, 0, none⟩) l.length cap (l.map fun x : Nat => Value.int .u8 ((x : Nat) : Int)) (by rw [hz1]; exact hfo) k h0 (by rw [hz1]; omega) (by omega) (by omega) (by rw [hz2]; omega) (by rw [hz2]; exact growslice_fits (by omega) (by omega))
    have hge := grownCap_ge W (l.length + k) cap 5
    have hcm' : grownCap W (l.length + k) cap 5 ≤ maxLen := grownCap_le_maxLen W (l.length + k) cap 5 (by unfold maxLen; omega)
    refine ⟨_, _, hr, ?_, ⟨rfl, rfl, rfl, by simp, fun q hq _ => heap_alloc_old W.drew _ hq⟩, .inr rfl⟩
    unfold OwnB
    rw [hl2, hm2]
    refine ⟨by simp, .inr ⟨W.heap.size, _, _, rfl, Nat.zero_le _, heap_alloc_new W.drew _, hge, hcm', ?_, ?_⟩⟩
    · simp only [Array.size_append, List.size_toArray, zcells, List.length_map, List.length_replicate]
      omega
    · have e1 : ((l.map fun x : Nat => Value.int .u8 ((x : Nat) : Int)) ++ List.replicate k (Value.int .u8 0)).length = (l.length + k) * 1 := by simp
      rw [zcells, zcells]
      simp only [Array.toList_append, List.append_assoc]
      rw [← List.append_assoc, ← e1]
      exact List.take_left
theorem wpList_appz {W : World} {ops : Array Oper} {rest : List Oper} {o : Oper} {a : Act} {Q : Exit → Act → World → Prop} (hgd : o.guard = none) (s x : Operand)
    (ho : o.op = .call { callee := .builtin .append, args := #[s, x], argTypes := #[22, 3] })
    (v : Value) (l : List Nat) (k : Nat) (h : OwnB W v l) (hs : a.eval s = v) (hx : a.eval x = .int .i64 (k : Int)) (hne : 0 < l.length) (h0 : 0 < k) (hlen : l.length + k ≤ 1000000)
    (hk : ∀ v' W', Appended W v l (List.replicate k 0) v' W' → wpList Try.prog ops Q rest (a.put o.dst v') W') : wpList Try.prog ops Q (o :: rest) a W := by
  refine wpList_plain hgd fun K hK => ?_
  obtain ⟨v', W', hr, h2⟩ := run_appz h hne o.type k h0 hlen
  unfold Oper.wp execOp
  simp only [ho, resolve, invoke, builtin, Sem.run_bind, Sem.run_pure, Result.andThen_ok, List.map_toArray, List.map_cons, List.map_nil, hs, hx, hr]
  exact hK _ _ (hk v' W' h2)
end Go.Proofs.Ytkkncijbedfdfaa
