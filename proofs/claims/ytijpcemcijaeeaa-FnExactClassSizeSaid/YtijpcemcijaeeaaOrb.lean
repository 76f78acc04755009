/- Each word that comes from a table comes in as many ways as the table itself does; so the distinct words are counted. Conditions: the bounds that stand in each. -/
import Derived.Test.YtijpcemcijaeeaaImg
import Derived.Test.YtijpcemcijaeeaaGca
import Derived.Test.YtijpcemcijaeeaaTab
import Derived.Test.YtijpcemcijaeeaaPy1
namespace Go.Proofs.Ytijpcemcijaeeaa.Tab
set_option linter.unusedVariables false
set_option linter.unusedSimpArgs false
open Go Go.RowKit Go.Proofs.Ytijpcemcijaeeaa.P Go.Proofs.Ytijpcemcijaeeaa.Bits Go.Proofs.YtijpcemcijaeeaaW.PrintWords Go.Proofs.YtijpcemcijaeeaaW.PrintLast Go.Proofs.YtijpcemcijaeeaaW.PrintMore

/-- Where an order takes an input, and whence it comes, in whole numbers. -/
def mvN (p : List Int) (x : Nat) : Nat := (List.range p.length).foldl (fun (a i : Nat) => a ||| (if x.testBit i then 2 ^ (rd p (i : Int)).toNat else 0)) 0
def ivN (p : List Int) (j : Nat) : Nat := (List.range p.length).foldl (fun (a i : Nat) => a ||| (if j.testBit (rd p (i : Int)).toNat then 2 ^ i else 0)) 0
def cmpP (p q : List Int) : List Int := p.map fun a => rd q a

theorem orders_ok : ∀ n : Nat, n ≤ 4 → ∀ p ∈ ext n n [], ∀ x : Nat, x < 2 ^ n → impl_moved.f 10 (x : Int) p = some (mvN p x : Int) ∧ mvN p x < 2 ^ n ∧ ivN p (mvN p x) = x ∧ ivN p x < 2 ^ n ∧ mvN p (ivN p x) = x := by decide +kernel
theorem orders_xor : ∀ n : Nat, n ≤ 4 → ∀ q ∈ ext n n [], ∀ s, s < 2 ^ n → ∀ j, j < 2 ^ n → ivN q (j ^^^ mvN q s) = ivN q j ^^^ s := by decide +kernel
theorem orders_cmp : ∀ n : Nat, n ≤ 4 → ∀ q ∈ ext n n [], ∀ p ∈ ext n n [], ∀ k, k < 2 ^ n → ivN (cmpP p q) k = ivN p (ivN q k) := by decide +kernel
theorem orders_perm : ∀ n : Nat, n ≤ 4 → ∀ q ∈ ext n n [], ((ext n n []).map fun p => cmpP p q).Perm (ext n n []) := by decide +kernel
theorem shifts_perm : ∀ n : Nat, n ≤ 4 → ∀ q ∈ ext n n [], ∀ s, s < 2 ^ n → ((List.range (2 ^ n)).map fun t => mvN q t ^^^ s).Perm (List.range (2 ^ n)) := by decide +kernel
theorem ways_len : ∀ n : Nat, n ≤ 4 → (ext n n []).length * (2 * 2 ^ n) = (List.range n).foldl (fun (a i : Nat) => a * 2 * (i + 1)) 2 := by decide +kernel

/-- The word that an order makes, bit by bit. -/
def orTo (p : List Int) (v : Nat) : Nat → Nat
  | 0 => 0
  | m + 1 => orTo p v m ||| (if v.testBit m then 2 ^ mvN p m else 0)
theorem orTo_bit (p : List Int) (v : Nat) (j : Nat) : ∀ m, (orTo p v m).testBit j = true ↔ ∃ y, y < m ∧ v.testBit y = true ∧ mvN p y = j
  | 0 => by simp [orTo]
  | m + 1 => by
    simp only [orTo, Nat.testBit_or, Bool.or_eq_true, orTo_bit p v j m]
    constructor
    · rintro (⟨y, h1, h2, h3⟩ | h)
      · exact ⟨y, by omega, h2, h3⟩
      · by_cases hb : v.testBit m = true
        · rw [if_pos hb, Nat.testBit_two_pow] at h
          exact ⟨m, by omega, hb, by simpa using h⟩
        · rw [if_neg hb] at h
          simp at h
    · rintro ⟨y, h1, h2, h3⟩
      by_cases hy : y = m
      · subst hy
        right
        rw [if_pos h2, Nat.testBit_two_pow]
        simpa using h3
      · exact Or.inl ⟨y, by omega, h2, h3⟩
theorem orTo_lt (n : Nat) (hn : n ≤ 4) (p : List Int) (hp : p ∈ ext n n []) (v : Nat) : ∀ m, m ≤ 2 ^ n → orTo p v m < 2 ^ 2 ^ n
  | 0, _ => Nat.two_pow_pos _
  | m + 1, h => by
    simp only [orTo]
    refine Nat.or_lt_two_pow (orTo_lt n hn p hp v m (by omega)) ?_
    have := (orders_ok n hn p hp m (by omega)).2.1
    split
    · exact Nat.pow_lt_pow_right (by decide) this
    · exact Nat.two_pow_pos _

theorem moved_more (x : Int) (p : List Int) (r : Int) (h : impl_moved.f 10 x p = some r) : ∀ j, impl_moved.f (10 + j) x p = some r
  | 0 => h
  | j + 1 => impl_moved.mono _ _ _ _ (moved_more x p r h j)

theorem perm_loop (n v : Nat) (hn : n ≤ 4) (hv : v < 2 ^ 2 ^ n) (p : List Int) (hp : p ∈ ext n n []) : ∀ (d x q : Nat), x + d = 2 ^ n → d + 20 ≤ q →
    impl_Table_permute.l0 q p ((2 ^ n : Nat) : Int) (x : Int) (n : Int) (v : Int) (n : Int) ((orTo p v x : Nat) : Int) = some ((n : Int), ((orTo p v (2 ^ n) : Nat) : Int)) := by
  have hz := sz4 hn
  have hl := lim4 hn
  intro d
  induction d with
  | zero =>
    intro x q hx hq
    obtain ⟨q, rfl⟩ : ∃ z, q = z + 1 := ⟨q - 1, by omega⟩
    obtain rfl : x = 2 ^ n := by omega
    simp only [impl_Table_permute.l0]
    rw [if_neg (by omega)]
  | succ d ih =>
    intro x q hx hq
    obtain ⟨q, rfl⟩ : ∃ z, q = (10 + z) + 1 := ⟨q - 11, by omega⟩
    obtain ⟨m1, m2, -⟩ := orders_ok n hn p hp x (by omega)
    have m3 := moved_more _ _ _ m1 q
    have hA := orTo_lt n hn p hp v x (by omega)
    have hlt : (x : Int) < ((2 ^ n : Nat) : Int) := by exact_mod_cast (show x < 2 ^ n by omega)
    have ho := or_bit (orTo p v x) (mvN p x) (v.testBit x) (by omega) (by omega)
    rw [impl_Table_permute.l0, if_pos hlt, at_is (by omega) (by omega) (by omega) (by omega), m3]
    simp only [Option.bind_some, Int.toNat_natCast]
    rw [if_pos (by omega), ho, w64 (by omega) (by omega)]
    exact ih (x + 1) (10 + q) (by omega) (by omega)

theorem permF_is (n v : Nat) (hn : n ≤ 4) (hv : v < 2 ^ 2 ^ n) (p : List Int) (hp : p ∈ ext n n []) : permF n v p = orTo p v (2 ^ n) := by
  have hz := sz4 hn
  have e : impl_Table_permute.f 400 (n : Int) (v : Int) p = some ((n : Int), ((orTo p v (2 ^ n) : Nat) : Int)) := by
    unfold impl_Table_permute.f
    rw [size_is (by omega) (by omega), two_nat (by omega)]
    exact perm_loop n v hn hv p hp (2 ^ n) 0 400 (by omega) (by omega)
  unfold permF
  rw [e]
  simp
theorem permF_lt (n v : Nat) (hn : n ≤ 4) (hv : v < 2 ^ 2 ^ n) (p : List Int) (hp : p ∈ ext n n []) : permF n v p < 2 ^ 2 ^ n := by
  rw [permF_is n v hn hv p hp]
  exact orTo_lt n hn p hp v _ (Nat.le_refl _)
theorem permF_bit (n v : Nat) (hn : n ≤ 4) (hv : v < 2 ^ 2 ^ n) (p : List Int) (hp : p ∈ ext n n []) (j : Nat) (hj : j < 2 ^ n) : (permF n v p).testBit j = v.testBit (ivN p j) := by
  rw [permF_is n v hn hv p hp, Bool.eq_iff_iff, orTo_bit]
  obtain ⟨-, -, -, i1, i2⟩ := orders_ok n hn p hp j hj
  constructor
  · rintro ⟨y, h1, h2, rfl⟩
    rw [(orders_ok n hn p hp y h1).2.2.1]
    exact h2
  · intro h
    exact ⟨ivN p j, i1, h, i2⟩
theorem shF_bit (n a x j : Nat) (hj : j < 2 ^ n) : (shF n a x).testBit j = a.testBit (j ^^^ x) := by
  unfold shF shW
  rw [testBit_wordOf, Int.toNat_natCast, Int.toNat_natCast, decide_eq_true hj, Bool.true_and]
theorem ntF_bit (n h j : Nat) (hh : h < 2 ^ 2 ^ n) (hj : j < 2 ^ n) : (ntF n h).testBit j = !h.testBit j := by
  unfold ntF
  rw [show 2 ^ 2 ^ n - 1 - h = 2 ^ 2 ^ n - (h + 1) by omega, Nat.testBit_two_pow_sub_succ hh, decide_eq_true hj, Bool.true_and]
theorem ntF_twice (n h : Nat) (hh : h < 2 ^ 2 ^ n) : ntF n (ntF n h) = h := by
  unfold ntF
  omega
theorem word_ext (n a b : Nat) (ha : a < 2 ^ 2 ^ n) (hb : b < 2 ^ 2 ^ n) (h : ∀ j, j < 2 ^ n → a.testBit j = b.testBit j) : a = b := by
  apply Nat.eq_of_testBit_eq
  intro j
  rcases Nat.lt_or_ge j (2 ^ n) with q | q
  · exact h j q
  · rw [Nat.testBit_lt_two_pow (Nat.lt_of_lt_of_le ha (Nat.pow_le_pow_right (by decide) q)), Nat.testBit_lt_two_pow (Nat.lt_of_lt_of_le hb (Nat.pow_le_pow_right (by decide) q))]

/-- One way: an order, a shift, and whether the values are turned. -/
def act (n : Nat) (q : List Int) (s : Nat) (c : Bool) (y : Nat) : Nat := if c then ntF n (shF n (permF n y q) s) else shF n (permF n y q) s
theorem act_lt (n : Nat) (q : List Int) (s : Nat) (c : Bool) (y : Nat) : act n q s c y < 2 ^ 2 ^ n := by
  unfold act
  split
  · exact ntF_lt n _
  · exact shF_lt n _ _
theorem act_false (n : Nat) (hn : n ≤ 4) (q : List Int) (hq : q ∈ ext n n []) (s : Nat) (hs : s < 2 ^ n) (y : Nat) (hy : y < 2 ^ 2 ^ n) (j : Nat) (hj : j < 2 ^ n) : (act n q s false y).testBit j = y.testBit (ivN q (j ^^^ s)) := by
  show (shF n (permF n y q) s).testBit j = _
  rw [shF_bit n _ _ j hj, permF_bit n y hn hy q hq _ (Nat.xor_lt_two_pow hj hs)]
theorem act_inj (n : Nat) (hn : n ≤ 4) (q : List Int) (hq : q ∈ ext n n []) (s : Nat) (hs : s < 2 ^ n) (c : Bool) (y z : Nat) (hy : y < 2 ^ 2 ^ n) (hz : z < 2 ^ 2 ^ n) (h : act n q s c y = act n q s c z) : y = z := by
  have h2 : act n q s false y = act n q s false z := by
    cases c
    · exact h
    · have h3 : ntF n (shF n (permF n y q) s) = ntF n (shF n (permF n z q) s) := h
      have h4 := congrArg (ntF n) h3
      rw [ntF_twice n _ (shF_lt n _ _), ntF_twice n _ (shF_lt n _ _)] at h4
      exact h4
  refine word_ext n y z hy hz fun i hi => ?_
  obtain ⟨-, m1, m2, -⟩ := orders_ok n hn q hq i hi
  have hj : mvN q i ^^^ s < 2 ^ n := Nat.xor_lt_two_pow m1 hs
  have h5 := congrArg (fun w => w.testBit (mvN q i ^^^ s)) h2
  simp only [act_false n hn q hq s hs y hy _ hj, act_false n hn q hq s hs z hz _ hj, Nat.xor_assoc, Nat.xor_self, Nat.xor_zero, m2] at h5
  exact h5
theorem act_nt (n : Nat) (hn : n ≤ 4) (q : List Int) (hq : q ∈ ext n n []) (s : Nat) (hs : s < 2 ^ n) (y : Nat) (hy : y < 2 ^ 2 ^ n) : act n q s false (ntF n y) = ntF n (act n q s false y) := by
  refine word_ext n _ _ (act_lt n _ _ _ _) (ntF_lt n _) fun j hj => ?_
  have hi : ivN q (j ^^^ s) < 2 ^ n := (orders_ok n hn q hq _ (Nat.xor_lt_two_pow hj hs)).2.2.2.1
  rw [act_false n hn q hq s hs _ (ntF_lt n y) j hj, ntF_bit n y _ hy hi, ntF_bit n _ j (act_lt n _ _ _ _) hj, act_false n hn q hq s hs y hy j hj]
theorem act_true (n : Nat) (q : List Int) (s y : Nat) : act n q s true y = ntF n (act n q s false y) := rfl
theorem act_way (n v : Nat) (hn : n ≤ 4) (hv : v < 2 ^ 2 ^ n) (p : List Int) (hp : p ∈ ext n n []) (t : Nat) (ht : t < 2 ^ n) (q : List Int) (hq : q ∈ ext n n []) (hpq : cmpP p q ∈ ext n n []) (s : Nat) (hs : s < 2 ^ n) :
    act n q s false (shF n (permF n v p) t) = shF n (permF n v (cmpP p q)) (mvN q t ^^^ s) := by
  refine word_ext n _ _ (act_lt n _ _ _ _) (shF_lt n _ _) fun j hj => ?_
  have hjs := Nat.xor_lt_two_pow hj hs
  have hm := (orders_ok n hn q hq t ht).2.1
  have hi : ivN q (j ^^^ s) < 2 ^ n := (orders_ok n hn q hq _ hjs).2.2.2.1
  rw [act_false n hn q hq s hs _ (shF_lt n _ _) j hj, shF_bit n _ _ _ hi, permF_bit n v hn hv p hp _ (Nat.xor_lt_two_pow hi ht), shF_bit n _ _ j hj, permF_bit n v hn hv _ hpq _ (Nat.xor_lt_two_pow hj (Nat.xor_lt_two_pow hm hs)),
    orders_cmp n hn q hq p hp _ (Nat.xor_lt_two_pow hj (Nat.xor_lt_two_pow hm hs)), show j ^^^ (mvN q t ^^^ s) = (j ^^^ s) ^^^ mvN q t by rw [Nat.xor_comm (mvN q t) s, Nat.xor_assoc], orders_xor n hn q hq t ht _ hjs]

theorem perm_left {α β : Type} (f g : α → List β) : ∀ l : List α, (∀ a ∈ l, (f a).Perm (g a)) → (l.flatMap f).Perm (l.flatMap g)
  | [], _ => List.Perm.refl _
  | a :: l, h => by
    rw [List.flatMap_cons, List.flatMap_cons]
    exact (h a List.mem_cons_self).append (perm_left f g l fun b hb => h b (List.mem_cons_of_mem _ hb))

/-- What one order and one shift give. -/
def pairW (n v : Nat) (p : List Int) (t : Nat) : List Nat := [shF n (permF n v p) t, ntF n (shF n (permF n v p) t)]
theorem words_eq (n v : Nat) : words n v = (ext n n []).flatMap fun p => (List.range (2 ^ n)).flatMap fun t => pairW n v p t := rfl
theorem mem_words (n v y : Nat) (h : y ∈ words n v) : ∃ q ∈ ext n n [], ∃ s, s < 2 ^ n ∧ ∃ c, y = act n q s c v := by
  rw [words_eq] at h
  obtain ⟨q, hq, h⟩ := List.mem_flatMap.1 h
  obtain ⟨s, hs, h⟩ := List.mem_flatMap.1 h
  rw [List.mem_range] at hs
  rcases List.mem_cons.1 h with h | h
  · exact ⟨q, hq, s, hs, false, h⟩
  · exact ⟨q, hq, s, hs, true, List.mem_singleton.1 h⟩
theorem words_lt (n v y : Nat) (h : y ∈ words n v) : y < 2 ^ 2 ^ n := by
  obtain ⟨q, -, s, -, c, rfl⟩ := mem_words n v y h
  exact act_lt n q s c v

theorem words_perm (n v : Nat) (hn : n ≤ 4) (hv : v < 2 ^ 2 ^ n) (q : List Int) (hq : q ∈ ext n n []) (s : Nat) (hs : s < 2 ^ n) (c : Bool) : ((words n v).map (act n q s c)).Perm (words n v) := by
  have hP := orders_perm n hn q hq
  have hS := shifts_perm n hn q hq s hs
  have h1 : ((words n v).map (act n q s c)).Perm ((ext n n []).flatMap fun p => (List.range (2 ^ n)).flatMap fun t => pairW n v (cmpP p q) (mvN q t ^^^ s)) := by
    rw [words_eq, List.map_flatMap]
    refine perm_left _ _ _ fun p hp => ?_
    rw [List.map_flatMap]
    refine perm_left _ _ _ fun t ht => ?_
    have ht2 := List.mem_range.1 ht
    have hpq : cmpP p q ∈ ext n n [] := hP.mem_iff.1 (List.mem_map.2 ⟨p, hp, rfl⟩)
    have e := act_way n v hn hv p hp t ht2 q hq hpq s hs
    have e2 := act_nt n hn q hq s hs (shF n (permF n v p) t) (shF_lt n _ _)
    rw [e] at e2
    cases c
    · simp only [pairW, List.map_cons, List.map_nil, e, e2]
      exact List.Perm.refl _
    · simp only [pairW, List.map_cons, List.map_nil, act_true, e, e2]
      rw [ntF_twice n _ (shF_lt n _ _)]
      exact List.Perm.swap _ _ _
  refine h1.trans ?_
  rw [words_eq]
  have h2 : ((ext n n []).flatMap fun p => (List.range (2 ^ n)).flatMap fun t => pairW n v (cmpP p q) (mvN q t ^^^ s)).Perm ((ext n n []).flatMap fun p => (List.range (2 ^ n)).flatMap fun t => pairW n v (cmpP p q) t) := by
    refine perm_left _ _ _ fun p _ => ?_
    have := List.Perm.flatMap_right (fun t => pairW n v (cmpP p q) t) hS
    rw [List.flatMap_map] at this
    exact this
  refine h2.trans ?_
  have h3 := List.Perm.flatMap_right (fun p => (List.range (2 ^ n)).flatMap fun t => pairW n v p t) hP
  rw [List.flatMap_map] at h3
  exact h3

theorem count_map_on (f : Nat → Nat) (a : Nat) : ∀ l : List Nat, (∀ x ∈ l, f x = f a → x = a) → (l.map f).count (f a) = l.count a
  | [], _ => rfl
  | x :: l, h => by
    have ih := count_map_on f a l fun y hy => h y (List.mem_cons_of_mem _ hy)
    rw [List.map_cons, List.count_cons, List.count_cons, ih]
    by_cases hx : x = a
    · subst hx
      simp
    · have : ¬ f x = f a := fun e => hx (h x (List.mem_cons_self) e)
      simp [hx, this]

theorem words_count (n v : Nat) (hn : n ≤ 4) (hv : v < 2 ^ 2 ^ n) (y : Nat) (hy : y ∈ words n v) : (words n v).count y = (words n v).count v := by
  obtain ⟨q, hq, s, hs, c, rfl⟩ := mem_words n v y hy
  rw [← (words_perm n v hn hv q hq s hs c).count_eq, count_map_on]
  intro x hx h
  exact act_inj n hn q hq s hs c x v (words_lt n v x hx) hv h

theorem count_all (c : Nat) : ∀ (d l : List Nat), d.Nodup → (∀ x, x ∈ d ↔ x ∈ l) → (∀ x ∈ l, l.count x = c) → l.length = d.length * c
  | [], l, _, h2, _ => by
    cases l with
    | nil => simp
    | cons x l => exact absurd ((h2 x).2 (List.mem_cons_self)) (by simp)
  | x :: d, l, h1, h2, h3 => by
    rw [List.nodup_cons] at h1
    have hx : x ∈ l := (h2 x).1 List.mem_cons_self
    have e1 : l.length = l.count x + (l.filter fun y => !(y == x)).length := by
      have h4 := List.length_eq_countP_add_countP (fun y => y == x) (l := l)
      have e : (fun a => decide ¬(a == x) = true) = (fun y : Nat => !(y == x)) := funext fun a => by cases a == x <;> rfl
      rw [e, List.countP_eq_length_filter (p := fun y : Nat => !(y == x))] at h4
      exact h4
    have ih := count_all c d (l.filter fun y => !(y == x)) h1.2 (fun y => by
      rw [List.mem_filter]
      constructor
      · intro hy
        refine ⟨(h2 y).1 (List.mem_cons_of_mem _ hy), ?_⟩
        have : y ≠ x := fun e => h1.1 (e ▸ hy)
        simp [this]
      · rintro ⟨hy, hne⟩
        rcases List.mem_cons.1 ((h2 y).2 hy) with e | e
        · subst e; simp at hne
        · exact e) (fun y hy => by
      rw [List.mem_filter] at hy
      rw [List.count_filter (p := fun y : Nat => !(y == x)) hy.2]
      exact h3 y hy.1)
    rw [e1, ih, h3 x hx, List.length_cons, Nat.add_mul, Nat.one_mul, Nat.add_comm]

theorem words_ways (n v : Nat) (hn : n ≤ 4) (hv : v < 2 ^ 2 ^ n) (d : List Nat) (h1 : d.Nodup) (h2 : ∀ x, x ∈ d ↔ x ∈ words n v) : (List.range n).foldl (fun (a i : Nat) => a * 2 * (i + 1)) 2 = d.length * (words n v).count v ∧ 0 < (words n v).count v := by
  have e := count_all ((words n v).count v) d (words n v) h1 h2 (words_count n v hn hv)
  have e2 : (words n v).length = (ext n n []).length * (2 * 2 ^ n) := imgs_len _ _ _ _ _
  rw [ways_len n hn] at e2
  have hpos : 0 < (List.range n).foldl (fun (a i : Nat) => a * 2 * (i + 1)) 2 := by
    have : ∀ m : Nat, m ≤ 4 → 0 < (List.range m).foldl (fun (a i : Nat) => a * 2 * (i + 1)) 2 := by decide
    exact this n hn
  refine ⟨by omega, ?_⟩
  rcases Nat.eq_zero_or_pos ((words n v).count v) with h | h
  · rw [h] at e
    omega
  · exact h
end Go.Proofs.Ytijpcemcijaeeaa.Tab
