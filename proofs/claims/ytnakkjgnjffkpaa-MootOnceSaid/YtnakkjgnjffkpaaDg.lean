/-
  Whole numbers as their decimal digits, the lowest first: plain arithmetic, no program in sight.
-/
namespace Go.Proofs.Ytnakkjgnjffkpaa

def dgF : Nat → Nat → List Nat
  | 0, _ => []
  | k + 1, n => if n = 0 then [] else n % 10 :: dgF k (n / 10)
/-- The digits of n. -/
def dg (n : Nat) : List Nat := dgF n n
def val : List Nat → Nat
  | [] => 0
  | d :: r => d + 10 * val r
def low (l : List Nat) : Prop := ∀ d ∈ l, d < 10

theorem dgF_eq : ∀ (k k' n : Nat), n ≤ k → n ≤ k' → dgF k n = dgF k' n
  | 0, 0, _, _, _ => rfl
  | 0, k' + 1, n, h, _ => by obtain rfl : n = 0 := by omega
                             simp [dgF]
  | k + 1, 0, n, _, h => by obtain rfl : n = 0 := by omega
                            simp [dgF]
  | k + 1, k' + 1, n, h, h' => by
    by_cases hn : n = 0
    · simp [dgF, hn]
    · simp only [dgF, hn, if_false]
      rw [dgF_eq k k' (n / 10) (by omega) (by omega)]
theorem dg_zero : dg 0 = [] := rfl
theorem dg_pos {n : Nat} (h : 0 < n) : dg n = n % 10 :: dg (n / 10) := by
  unfold dg
  obtain ⟨k, rfl⟩ : ∃ k, n = k + 1 := ⟨n - 1, by omega⟩
  rw [show dgF (k + 1) (k + 1) = (k + 1) % 10 :: dgF k ((k + 1) / 10) by simp [dgF]]
  rw [dgF_eq k ((k + 1) / 10) ((k + 1) / 10) (by omega) (by omega)]
theorem dg_ind {p : Nat → Prop} (h0 : p 0) (h : ∀ n, 0 < n → p (n / 10) → p n) : ∀ n, p n := by
  intro n
  induction n using Nat.strongRecOn with
  | ind n ih =>
    by_cases hn : n = 0
    · subst hn; exact h0
    · exact h n (by omega) (ih _ (by omega))
theorem val_dg (n : Nat) : val (dg n) = n := by
  refine dg_ind (p := fun n => val (dg n) = n) rfl (fun n h ih => ?_) n
  rw [dg_pos h, val, ih]; omega
theorem low_dg (n : Nat) : low (dg n) := by
  refine dg_ind (p := fun n => low (dg n)) (by intro d hd; simp [dg_zero] at hd) (fun n h ih => ?_) n
  rw [dg_pos h]
  intro d hd
  rcases List.mem_cons.1 hd with rfl | hd
  · omega
  · exact ih d hd
/-- The digit at a place. -/
def dgt (n i : Nat) : Nat := n / 10 ^ i % 10
theorem dgt_lt (n i : Nat) : dgt n i < 10 := Nat.mod_lt _ (by omega)
theorem dgt_zero (n : Nat) : dgt n 0 = n % 10 := by simp [dgt]
theorem dgt_succ (n i : Nat) : dgt n (i + 1) = dgt (n / 10) i := by
  unfold dgt; rw [Nat.div_div_eq_div_mul, Nat.pow_succ, Nat.mul_comm]
theorem dg_getD (n : Nat) : ∀ i, (dg n).getD i 0 = dgt n i := by
  refine dg_ind (p := fun n => ∀ i, (dg n).getD i 0 = dgt n i) (by intro i; simp [dg_zero, dgt]) (fun n h ih i => ?_) n
  rw [dg_pos h]
  cases i with
  | zero => simp [dgt_zero]
  | succ i => rw [dgt_succ]; simpa using ih i
theorem dg_get (n i : Nat) (h : i < (dg n).length) : (dg n)[i]? = some (dgt n i) := by
  rw [← dg_getD n i, List.getD_eq_getElem?_getD]
  rw [List.getElem?_eq_getElem h]; rfl
theorem dg_len_zero {n : Nat} : (dg n).length = 0 ↔ n = 0 := by
  constructor
  · intro h
    rcases Nat.eq_zero_or_pos n with hn | hn
    · exact hn
    · rw [dg_pos hn] at h; simp at h
  · rintro rfl; rfl
theorem lt_pow_len (n : Nat) : n < 10 ^ (dg n).length := by
  refine dg_ind (p := fun n => n < 10 ^ (dg n).length) (by simp [dg_zero]) (fun n h ih => ?_) n
  rw [dg_pos h, List.length_cons, Nat.pow_succ]; omega
theorem pow_le_of_len {n i : Nat} (h : i < (dg n).length) : 10 ^ i ≤ n := by
  revert i
  refine dg_ind (p := fun n => ∀ {i}, i < (dg n).length → 10 ^ i ≤ n) (by intro i h; simp [dg_zero] at h) (fun n h ih i hi => ?_) n
  rw [dg_pos h] at hi
  cases i with
  | zero => simp; omega
  | succ i =>
    have := ih (i := i) (by simpa using hi)
    rw [Nat.pow_succ]; omega
theorem len_le_of_lt {n k : Nat} (h : n < 10 ^ k) : (dg n).length ≤ k := by
  rcases Nat.lt_or_ge k (dg n).length with h' | h'
  · have := pow_le_of_len h'; omega
  · exact h'
theorem lt_of_len_le {n k : Nat} (h : (dg n).length ≤ k) : n < 10 ^ k := Nat.lt_of_lt_of_le (lt_pow_len n) (Nat.pow_le_pow_right (by omega) h)
theorem len_u64 {n : Nat} (h : n < 18446744073709551616) : (dg n).length ≤ 20 := len_le_of_lt (Nat.lt_trans h (by decide))
theorem len_mono {a b : Nat} (h : a ≤ b) : (dg a).length ≤ (dg b).length := len_le_of_lt (Nat.lt_of_le_of_lt h (lt_pow_len b))
theorem len_add (a b : Nat) : (dg (a + b)).length ≤ max (dg a).length (dg b).length + 1 := by
  apply len_le_of_lt
  have h1 := lt_of_len_le (n := a) (k := max (dg a).length (dg b).length) (Nat.le_max_left _ _)
  have h2 := lt_of_len_le (n := b) (k := max (dg a).length (dg b).length) (Nat.le_max_right _ _)
  rw [Nat.pow_succ]; omega
theorem len_mul (a b : Nat) : (dg (a * b)).length ≤ (dg a).length + (dg b).length := by
  apply len_le_of_lt
  rw [Nat.pow_add]
  exact Nat.mul_lt_mul'' (lt_pow_len a) (lt_pow_len b)
theorem len_div (a b : Nat) : (dg (a / b)).length ≤ (dg a).length := len_mono (Nat.div_le_self a b)
theorem len_mod (a b : Nat) : (dg (a % b)).length ≤ (dg a).length := len_mono (Nat.mod_le a b)

/-- mod by a power: one digit more -/
theorem mod_pow_succ (n i : Nat) : n % 10 ^ (i + 1) = n % 10 ^ i + dgt n i * 10 ^ i := by
  rw [Nat.pow_succ, Nat.mod_mul]
  unfold dgt; rw [Nat.mul_comm]
theorem dgt_of_len {n i : Nat} (h : (dg n).length ≤ i) : dgt n i = 0 := by
  unfold dgt; rw [Nat.div_eq_of_lt (lt_of_len_le h)]
theorem mod_of_len {n i : Nat} (h : (dg n).length ≤ i) : n % 10 ^ i = n := Nat.mod_eq_of_lt (lt_of_len_le h)
theorem div_pow_succ (n i : Nat) : n / 10 ^ i = n / 10 ^ (i + 1) * 10 + dgt n i := by
  unfold dgt
  rw [Nat.pow_succ, ← Nat.div_div_eq_div_mul]
  omega

theorem val_append (l m : List Nat) : val (l ++ m) = val l + 10 ^ l.length * val m := by
  induction l with
  | nil => simp [val]
  | cons d r ih =>
    rw [List.cons_append, val, ih, val, List.length_cons, Nat.pow_succ, Nat.mul_add, ← Nat.mul_assoc, Nat.mul_comm 10 (10 ^ r.length)]; omega
theorem val_snoc (l : List Nat) (d : Nat) : val (l ++ [d]) = val l + d * 10 ^ l.length := by
  rw [val_append]; simp [val]; rw [Nat.mul_comm]
theorem val_lt {l : List Nat} (h : low l) : val l < 10 ^ l.length := by
  induction l with
  | nil => simp [val]
  | cons d r ih =>
    have h1 := h d (by simp)
    have h2 := ih (fun x hx => h x (by simp [hx]))
    rw [val, List.length_cons, Nat.pow_succ]; omega
theorem low_snoc {l : List Nat} {d : Nat} (h : low l) (hd : d < 10) : low (l ++ [d]) := by
  intro x hx
  rcases List.mem_append.1 hx with hx | hx
  · exact h x hx
  · simp at hx; omega
/-- A list of digits without a nought at its upper end is the digits of its value. -/
theorem canon : ∀ (l : List Nat), low l → (∀ d, l.getLast? = some d → d ≠ 0) → l = dg (val l)
  | [], _, _ => rfl
  | [d], h, hl => by
    have h1 := h d (by simp)
    have h2 := hl d rfl
    simp only [val]
    rw [dg_pos (by omega)]
    simp only [Nat.mul_zero, Nat.add_zero]
    rw [Nat.mod_eq_of_lt h1, Nat.div_eq_of_lt h1]; rfl
  | d :: e :: r, h, hl => by
    have h1 := h d (by simp)
    have ih := canon (e :: r) (fun x hx => h x (by simp [hx])) (fun x hx => hl x (by simpa using hx))
    have hv : 0 < val (e :: r) := by
      rcases Nat.eq_zero_or_pos (val (e :: r)) with h0 | h0
      · rw [h0] at ih; cases ih
      · exact h0
    rw [val, dg_pos (by omega)]
    rw [show (d + 10 * val (e :: r)) % 10 = d by omega, show (d + 10 * val (e :: r)) / 10 = val (e :: r) by omega]
    exact congrArg (d :: ·) ih
/-- Cut where all above is nought: the digits. -/
theorem trim_eq {l : List Nat} {n : Nat} (hl : low l) (hn : n ≤ l.length) (hz : ∀ i, n ≤ i → i < l.length → l.getD i 0 = 0) (ht : n = 0 ∨ l.getD (n - 1) 0 ≠ 0) : l.take n = dg (val l) := by
  have hv : val l = val (l.take n) := by
    have h0 : ∀ m : List Nat, (∀ i, i < m.length → m.getD i 0 = 0) → val m = 0 := by
      intro m
      induction m with
      | nil => intro _; rfl
      | cons d r ih =>
        intro h
        have h1 := h 0 (by simp)
        have h2 := ih (fun i hi => by simpa using h (i + 1) (by simpa using hi))
        simp at h1
        rw [val, h2, h1]
    conv => lhs; rw [← List.take_append_drop n l]
    rw [val_append, h0 (l.drop n)]
    · simp
    · intro i hi
      have := hz (n + i) (by omega) (by simp at hi; omega)
      simpa [List.getD_eq_getElem?_getD] using this
  rw [hv]
  apply canon
  · intro d hd; exact hl d (List.mem_of_mem_take hd)
  · intro d hd
    rcases ht with ht | ht
    · subst ht; simp at hd
    · rw [List.getLast?_eq_getElem?] at hd
      have hlen : (l.take n).length = n := by simp; omega
      rw [hlen] at hd
      rcases Nat.eq_zero_or_pos n with h0 | h0
      · subst h0; simp at hd
      · rw [List.getElem?_take_of_lt (by omega)] at hd
        rw [List.getD_eq_getElem?_getD, hd] at ht
        simpa using ht

theorem dgt_val {l : List Nat} (h : low l) : ∀ i, dgt (val l) i = l.getD i 0 := by
  induction l with
  | nil => intro i; simp [val, dgt]
  | cons d r ih =>
    intro i
    have h1 := h d (by simp)
    cases i with
    | zero => rw [dgt_zero, val]; simp; omega
    | succ i =>
      rw [dgt_succ, val, show (d + 10 * val r) / 10 = val r by omega, ih (fun x hx => h x (by simp [hx]))]
      simp

theorem val_set : ∀ (l : List Nat) (i x : Nat), i < l.length → val (l.set i x) + l.getD i 0 * 10 ^ i = val l + x * 10 ^ i
  | [], i, x, h => by simp at h
  | d :: r, 0, x, _ => by simp [val]; omega
  | d :: r, i + 1, x, h => by
    have ih := val_set r i x (by simpa using h)
    simp only [List.set_cons_succ, val, List.getD_cons_succ, Nat.pow_succ]
    have e1 : r.getD i 0 * (10 ^ i * 10) = 10 * (r.getD i 0 * 10 ^ i) := by rw [← Nat.mul_assoc, Nat.mul_comm _ 10]
    have e2 : x * (10 ^ i * 10) = 10 * (x * 10 ^ i) := by rw [← Nat.mul_assoc, Nat.mul_comm _ 10]
    omega
theorem low_set {l : List Nat} (h : low l) {i x : Nat} (hx : x < 10) : low (l.set i x) := by
  intro d hd
  rcases List.mem_or_eq_of_mem_set hd with h1 | h1
  · exact h d h1
  · omega
theorem low_getD {l : List Nat} (h : low l) (i : Nat) : l.getD i 0 < 10 := by
  rw [List.getD_eq_getElem?_getD]
  rcases Nat.lt_or_ge i l.length with h1 | h1
  · rw [List.getElem?_eq_getElem h1]; exact h _ (List.getElem_mem h1)
  · rw [List.getElem?_eq_none h1]; simp
theorem val_noughts (n : Nat) : val (List.replicate n 0) = 0 := by
  induction n with
  | zero => rfl
  | succ n ih => rw [List.replicate_succ, val, ih]
theorem low_noughts (n : Nat) : low (List.replicate n 0) := by
  intro d hd; have := List.eq_of_mem_replicate hd; omega
/-! ### Multiplying -/
/-- One step of the inner round: x is the digit there, c the carry. -/
theorem mul_step {v v' x c D p q i k s : Nat} (hs : s = x + p * q + c) (hset : v' + x * 10 ^ (i + k) = v + s % 10 * 10 ^ (i + k)) (bk bk' : Nat) (hb : bk' = bk + q * 10 ^ k)
    (h : v + c * 10 ^ (i + k) = D + p * bk * 10 ^ i) : v' + s / 10 * 10 ^ (i + (k + 1)) = D + p * bk' * 10 ^ i := by
  have e1 : s % 10 * 10 ^ (i + k) + s / 10 * 10 ^ (i + (k + 1)) = s * 10 ^ (i + k) := by
    rw [← Nat.add_assoc, Nat.pow_succ, Nat.mul_comm (10 ^ (i + k)) 10, ← Nat.mul_assoc, ← Nat.add_mul]
    congr 1; omega
  have e2 : s * 10 ^ (i + k) = x * 10 ^ (i + k) + p * q * 10 ^ (i + k) + c * 10 ^ (i + k) := by rw [hs, Nat.add_mul, Nat.add_mul]
  have e3 : p * bk' * 10 ^ i = p * bk * 10 ^ i + p * q * 10 ^ (i + k) := by
    rw [hb, Nat.mul_add, Nat.add_mul, ← Nat.mul_assoc, Nat.mul_assoc (p * q), ← Nat.pow_add, Nat.add_comm k i]
  omega
theorem mul_round {a b i : Nat} : a % 10 ^ i * b + dgt a i * b * 10 ^ i = a % 10 ^ (i + 1) * b := by
  rw [mod_pow_succ, Nat.add_mul, Nat.mul_right_comm]
theorem dgt_mul_high {a b i n2 j : Nat} (h2 : (dg b).length = n2) (hj : i + n2 ≤ j) : dgt (a % 10 ^ i * b) j = 0 := by
  apply dgt_of_len
  apply len_le_of_lt
  have h3 : a % 10 ^ i < 10 ^ i := Nat.mod_lt _ (Nat.pow_pos (by omega))
  have h4 : b < 10 ^ n2 := lt_of_len_le (by omega)
  calc a % 10 ^ i * b < 10 ^ i * 10 ^ n2 := Nat.mul_lt_mul'' h3 h4
    _ = 10 ^ (i + n2) := (Nat.pow_add _ _ _).symm
    _ ≤ 10 ^ j := Nat.pow_le_pow_right (by omega) hj
/-! ### Dividing -/
theorem div_round {a b j t r0 r : Nat} (hb : 0 < b) (h0 : r0 = dgt a j + 10 * (a / 10 ^ (j + 1) % b)) (h : t * b + r = r0) (hr : r < b) :
    a / 10 ^ j / b = 10 * (a / 10 ^ (j + 1) / b) + t ∧ a / 10 ^ j % b = r := by
  have h1 := div_pow_succ a j
  have h2 := Nat.div_add_mod (a / 10 ^ (j + 1)) b
  generalize a / 10 ^ (j + 1) / b = Q at *
  generalize a / 10 ^ (j + 1) % b = R at *
  generalize a / 10 ^ (j + 1) = M at *
  have e : a / 10 ^ j = r + b * (10 * Q + t) := by
    rw [h1, ← h2, Nat.mul_add, Nat.mul_comm b t, Nat.add_mul, Nat.mul_assoc, Nat.mul_comm Q 10]; omega
  rw [e]
  constructor
  · rw [Nat.add_mul_div_left _ _ hb, Nat.div_eq_of_lt hr, Nat.zero_add]
  · rw [Nat.add_mul_mod_self_left, Nat.mod_eq_of_lt hr]
theorem div_small {b r0 d R t : Nat} (hR : R < b) (hd : d < 10) (h0 : r0 = d + 10 * R) (h : (t + 1) * b ≤ r0) : t + 1 ≤ 9 := by
  rcases Nat.lt_or_ge (t + 1) 10 with h1 | h1
  · omega
  · have := Nat.mul_le_mul_right b h1; omega
theorem pq_le {p q : Nat} (hp : p < 10) (hq : q < 10) : p * q ≤ 81 := Nat.mul_le_mul (show p ≤ 9 by omega) (show q ≤ 9 by omega)

/-! ### Comparing -/
theorem cmp_top {a b i : Nat} (h : a / 10 ^ (i + 1) = b / 10 ^ (i + 1)) (hd : dgt a i = dgt b i) : a / 10 ^ i = b / 10 ^ i := by
  rw [div_pow_succ a i, div_pow_succ b i, h, hd]
theorem cmp_lt {a b i : Nat} (h : a / 10 ^ (i + 1) = b / 10 ^ (i + 1)) (hd : dgt a i < dgt b i) : a < b := by
  have h1 := div_pow_succ a i
  have h2 := div_pow_succ b i
  have h3 : a / 10 ^ i < b / 10 ^ i := by omega
  rcases Nat.lt_or_ge a b with hlt | hge
  · exact hlt
  · have := Nat.div_le_div_right (c := 10 ^ i) hge; omega
/-! ### Adding -/
theorem add_step (a b i c v : Nat) (h : v + c * 10 ^ i = a % 10 ^ i + b % 10 ^ i) :
    v + (dgt a i + dgt b i + c) % 10 * 10 ^ i + (dgt a i + dgt b i + c) / 10 * 10 ^ (i + 1) = a % 10 ^ (i + 1) + b % 10 ^ (i + 1) := by
  rw [mod_pow_succ a i, mod_pow_succ b i, Nat.pow_succ]
  have e : (dgt a i + dgt b i + c) % 10 * 10 ^ i + (dgt a i + dgt b i + c) / 10 * (10 ^ i * 10) = (dgt a i + dgt b i + c) * 10 ^ i := by
    rw [Nat.mul_comm (10 ^ i) 10, ← Nat.mul_assoc, ← Nat.add_mul]
    congr 1; omega
  rw [Nat.add_assoc, e, Nat.add_mul, Nat.add_mul]; omega
/-! ### Taking away -/
theorem sub_step (a b i c v d c' : Nat) (h : v + b % 10 ^ i = a % 10 ^ i + c * 10 ^ i) (hd : d + dgt b i + c = dgt a i + 10 * c') :
    v + d * 10 ^ i + b % 10 ^ (i + 1) = a % 10 ^ (i + 1) + c' * 10 ^ (i + 1) := by
  rw [mod_pow_succ a i, mod_pow_succ b i, Nat.pow_succ]
  have e : d * 10 ^ i + dgt b i * 10 ^ i + c * 10 ^ i = dgt a i * 10 ^ i + c' * (10 ^ i * 10) := by
    rw [Nat.mul_comm (10 ^ i) 10, ← Nat.mul_assoc, ← Nat.add_mul, ← Nat.add_mul, ← Nat.add_mul, hd, Nat.mul_comm c' 10]
  omega
theorem sub_end {a b v c : Nat} {k : Nat} (hk : (dg a).length = k) (hab : b ≤ a) (h : v + b % 10 ^ k = a % 10 ^ k + c * 10 ^ k) (hv : v < 10 ^ k) : v = a - b := by
  have ha : a < 10 ^ k := by rw [← hk]; exact lt_pow_len a
  rw [Nat.mod_eq_of_lt ha, Nat.mod_eq_of_lt (by omega)] at h
  rcases Nat.eq_zero_or_pos c with hc | hc
  · subst hc; omega
  · have : 10 ^ k ≤ c * 10 ^ k := Nat.le_mul_of_pos_left _ hc
    omega
end Go.Proofs.Ytnakkjgnjffkpaa
