/- Plain facts on the register of CRC-32: it is linear, it can be undone, and four bytes lead anywhere. No program stands here. -/
namespace Go.Proofs.YtkgnihpcldgedaaDoor.PCrc
def tab : List Nat := [0, 498536548, 997073096, 651767980, 1994146192, 1802195444, 1303535960, 1342533948, 3988292384, 4027552580, 3604390888, 3412177804, 2607071920, 2262029012, 2685067896, 3183342108]
def whn : List Nat := [0, 1, 3, 2, 6, 7, 5, 4, 13, 12, 14, 15, 11, 10, 8, 9]
def half (x : Nat) : Nat := x / 16 ^^^ tab.getD (x % 16) 0
def whole (x : Nat) : Nat := half (half x)
def undone (x : Nat) : Nat := ((x ^^^ tab.getD (whn.getD (x / 268435456) 0) 0) * 16) % 4294967296 ^^^ whn.getD (x / 268435456) 0
def put (x : Nat) (c : UInt8) : Nat := whole (x ^^^ c.toNat)
def reg (x : Nat) (l : List UInt8) : Nat := l.foldl put x
def inv (x : Nat) : Nat := 4294967295 - x
def of (l : List UInt8) : Nat := inv (reg 4294967295 l)

theorem tab_lin : ∀ i, i < 16 → ∀ j, j < 16 → tab.getD (i ^^^ j) 0 = tab.getD i 0 ^^^ tab.getD j 0 := by decide
theorem tab_lt : ∀ i, i < 16 → tab.getD i 0 < 4294967296 := by decide
theorem tab_lt' (i : Nat) : tab.getD i 0 < 4294967296 := by
  by_cases h : i < 16
  · exact tab_lt i h
  · have hl : tab.length ≤ i := by rw [show tab.length = 16 from rfl]; omega
    have : tab.getD i 0 = 0 := by rw [List.getD_eq_getElem?_getD, List.getElem?_eq_none hl]; rfl
    omega
theorem half_lin (x y : Nat) : half (x ^^^ y) = half x ^^^ half y := by
  unfold half
  have h1 : (x ^^^ y) / 16 = x / 16 ^^^ y / 16 := Nat.xor_div_two_pow (n := 4)
  have h2 : (x ^^^ y) % 16 = x % 16 ^^^ y % 16 := Nat.xor_mod_two_pow (n := 4)
  rw [h1, h2, tab_lin _ (Nat.mod_lt _ (by decide)) _ (Nat.mod_lt _ (by decide))]
  ac_rfl
theorem whole_lin (x y : Nat) : whole (x ^^^ y) = whole x ^^^ whole y := by
  unfold whole; rw [half_lin, half_lin]
theorem half_lt (x : Nat) (h : x < 4294967296) : half x < 4294967296 := by
  unfold half
  exact Nat.xor_lt_two_pow (n := 32) (by omega) (tab_lt' _)
theorem whole_lt (x : Nat) (h : x < 4294967296) : whole x < 4294967296 := half_lt _ (half_lt _ h)
theorem put_lt (x : Nat) (c : UInt8) (h : x < 4294967296) : put x c < 4294967296 :=
  whole_lt _ (Nat.xor_lt_two_pow (n := 32) h (by have := c.toNat_lt; omega))
theorem reg_lt (l : List UInt8) : ∀ x, x < 4294967296 → reg x l < 4294967296 := by
  induction l with
  | nil => intro x h; exact h
  | cons c l ih => intro x h; exact ih _ (put_lt x c h)
theorem inv_lt (x : Nat) (_h : x < 4294967296) : inv x < 4294967296 := by unfold inv; omega
theorem inv_inv (x : Nat) (h : x < 4294967296) : inv (inv x) = x := by unfold inv; omega
/-- The complement is an exclusive or (with a number that stays behind a letter). -/
theorem inv_xor : ∃ m : Nat, m = 4294967295 ∧ m < 4294967296 ∧ ∀ x, x < 4294967296 → inv x = m ^^^ x := by
  refine ⟨2 ^ 32 - 1, by omega, by omega, fun x h => ?_⟩
  unfold inv
  apply Nat.eq_of_testBit_eq
  intro i
  rw [show 4294967295 - x = 2 ^ 32 - (x + 1) by omega, Nat.testBit_two_pow_sub_succ h, Nat.testBit_xor, Nat.testBit_two_pow_sub_one]
  by_cases hi : i < 32
  · simp [hi]
  · have : x.testBit i = false := Nat.testBit_lt_two_pow (Nat.lt_of_lt_of_le h (by rw [show (4294967296 : Nat) = 2 ^ 32 by omega]; exact Nat.pow_le_pow_right (by decide) (by omega)))
    simp [hi, this]
theorem of_lt (l : List UInt8) : of l < 4294967296 := inv_lt _ (reg_lt _ _ (by omega))
theorem reg_append (x : Nat) (l m : List UInt8) : reg x (l ++ m) = reg (reg x l) m := by unfold reg; rw [List.foldl_append]
theorem reg_cons (x : Nat) (c : UInt8) (m : List UInt8) : reg x (c :: m) = reg (put x c) m := rfl
theorem whole_zero : whole 0 = 0 := by decide
theorem xor_join (n z k : Nat) (h : k < 2 ^ n) : z * 2 ^ n ^^^ k = z * 2 ^ n + k := by
  apply Nat.eq_of_testBit_eq
  intro i
  rw [Nat.testBit_xor, Nat.mul_comm, Nat.testBit_two_pow_mul, Nat.testBit_two_pow_mul_add z h]
  by_cases hi : i < n
  · rw [if_pos hi, show decide (i ≥ n) = false by simp; omega]; simp
  · have : k.testBit i = false := Nat.testBit_lt_two_pow (Nat.lt_of_lt_of_le h (Nat.pow_le_pow_right (by decide) (by omega)))
    rw [if_neg hi, show decide (i ≥ n) = true by simp; omega, this]; simp
/-! three rows -/
theorem reg_three (a b c : List UInt8) : ∀ (x y z : Nat), a.length = b.length → b.length = c.length →
    reg (x ^^^ y ^^^ z) (List.zipWith (· ^^^ ·) (List.zipWith (· ^^^ ·) a b) c) = reg x a ^^^ reg y b ^^^ reg z c := by
  induction a generalizing b c with
  | nil =>
    intro x y z h1 h2
    have hb : b = [] := List.eq_nil_of_length_eq_zero h1.symm
    subst hb
    have hc : c = [] := List.eq_nil_of_length_eq_zero h2.symm
    subst hc; rfl
  | cons a0 a ih =>
    intro x y z h1 h2
    match b, c, h1, h2 with
    | b0 :: b, c0 :: c, h1, h2 =>
      simp only [List.zipWith_cons_cons, reg_cons]
      rw [← ih b c (put x a0) (put y b0) (put z c0) (by simpa using h1) (by simpa using h2)]
      congr 1
      unfold put
      rw [← whole_lin, ← whole_lin]
      congr 1
      simp only [UInt8.toNat_xor]
      ac_rfl
theorem zip_len (a b c : List UInt8) (h1 : a.length = b.length) (h2 : b.length = c.length) :
    (List.zipWith (· ^^^ ·) (List.zipWith (· ^^^ ·) a b) c).length = a.length := by
  simp; omega
theorem of_three (a b c : List UInt8) (h1 : a.length = b.length) (h2 : b.length = c.length) :
    of (List.zipWith (· ^^^ ·) (List.zipWith (· ^^^ ·) a b) c) = of a ^^^ of b ^^^ of c := by
  obtain ⟨m, hm, hlt, hx⟩ := inv_xor
  unfold of
  rw [← hm, hx _ (reg_lt _ _ hlt), hx _ (reg_lt _ _ hlt), hx _ (reg_lt _ _ hlt), hx _ (reg_lt _ _ hlt)]
  have e : m = m ^^^ m ^^^ m := by rw [Nat.xor_self, Nat.zero_xor]
  have := reg_three a b c m m m h1 h2
  rw [← e] at this
  rw [this]
  generalize reg m a = p; generalize reg m b = q; generalize reg m c = r
  have : (m ^^^ p) ^^^ (m ^^^ q) ^^^ (m ^^^ r) = (m ^^^ (m ^^^ m)) ^^^ (p ^^^ q ^^^ r) := by ac_rfl
  rw [this, Nat.xor_self, Nat.xor_zero]
/-! undoing -/
theorem whn_ok : ∀ i, i < 16 → whn.getD (tab.getD i 0 / 268435456) 0 = i := by decide
theorem undone_half (x : Nat) (h : x < 4294967296) : undone (half x) = x := by
  have hk : x % 16 < 16 := Nat.mod_lt _ (by decide)
  have htop : half x / 268435456 = tab.getD (x % 16) 0 / 268435456 := by
    unfold half
    rw [show (268435456 : Nat) = 2 ^ 28 by decide, Nat.xor_div_two_pow (n := 28), show x / 16 / 2 ^ 28 = 0 by omega, Nat.zero_xor]
  unfold undone
  rw [htop, whn_ok _ hk]
  have : half x ^^^ tab.getD (x % 16) 0 = x / 16 := by
    unfold half
    rw [Nat.xor_assoc, Nat.xor_self, Nat.xor_zero]
  rw [this, show x / 16 * 16 % 4294967296 = x / 16 * 16 by omega]
  have hx := xor_join 4 (x / 16) (x % 16) (by omega)
  rw [show (2 : Nat) ^ 4 = 16 from rfl] at hx
  omega
theorem half_undone (y : Nat) (h : y < 4294967296) : half (undone y) = y := by
  have hk : y / 268435456 < 16 := by omega
  have w1 : ∀ i, i < 16 → tab.getD (whn.getD i 0) 0 / 268435456 = i := by decide
  have w2 : ∀ i, i < 16 → whn.getD i 0 < 16 := by decide
  have hk2 := w2 _ hk
  have ht := w1 _ hk
  unfold undone
  generalize hkk : whn.getD (y / 268435456) 0 = k at *
  have hz : (y ^^^ tab.getD k 0) / 268435456 = 0 := by
    rw [show (268435456 : Nat) = 2 ^ 28 by decide, Nat.xor_div_two_pow (n := 28), show (2 : Nat) ^ 28 = 268435456 by decide, ht, Nat.xor_self]
  have hlt : (y ^^^ tab.getD k 0) < 268435456 := by omega
  generalize hz' : y ^^^ tab.getD k 0 = z at *
  rw [show z * 16 % 4294967296 = z * 16 by omega]
  have hx := xor_join 4 z k (by omega)
  rw [show (2 : Nat) ^ 4 = 16 from rfl] at hx
  rw [hx]
  unfold half
  rw [show (z * 16 + k) / 16 = z by omega, show (z * 16 + k) % 16 = k by omega]
  rw [← hz', Nat.xor_assoc, Nat.xor_self, Nat.xor_zero]
theorem undone_lt (y : Nat) (h : y < 4294967296) : undone y < 4294967296 := by
  have w2 : ∀ i, i < 16 → whn.getD i 0 < 4294967296 := by decide
  exact Nat.xor_lt_two_pow (n := 32) (Nat.mod_lt _ (by omega)) (w2 _ (by omega))
theorem whole_inj (x y : Nat) (hx : x < 4294967296) (hy : y < 4294967296) (h : whole x = whole y) : x = y := by
  have h2 : half x = half y := by
    rw [← undone_half (half x) (half_lt x hx), ← undone_half (half y) (half_lt y hy)]; exact congrArg undone h
  rw [← undone_half x hx, ← undone_half y hy, h2]
theorem xor_u8_lt (x : Nat) (c : UInt8) (h : x < 4294967296) : x ^^^ c.toNat < 4294967296 :=
  Nat.xor_lt_two_pow (n := 32) h (by have := c.toNat_lt; omega)
theorem xor_cancel (a x y : Nat) (h : x ^^^ a = y ^^^ a) : x = y := by
  have := congrArg (· ^^^ a) h
  simpa [Nat.xor_assoc] using this
theorem reg_inj (l : List UInt8) : ∀ x y, x < 4294967296 → y < 4294967296 → reg x l = reg y l → x = y := by
  induction l with
  | nil => intro x y _ _ h; exact h
  | cons c l ih =>
    intro x y hx hy h
    have := ih _ _ (put_lt x c hx) (put_lt y c hy) h
    exact xor_cancel _ _ _ (whole_inj _ _ (xor_u8_lt x c hx) (xor_u8_lt y c hy) this)
theorem half_16 (y : Nat) : half (16 * y) = y := by
  unfold half
  rw [show 16 * y / 16 = y by omega, show 16 * y % 16 = 0 by omega]
  show y ^^^ 0 = y
  exact Nat.xor_zero y
theorem whole_256 (y : Nat) : whole (256 * y) = y := by
  unfold whole
  rw [show 256 * y = 16 * (16 * y) by omega, half_16, half_16]
def word (a b c d : UInt8) : Nat := a.toNat ^^^ 256 * (b.toNat ^^^ 256 * (c.toNat ^^^ 256 * d.toNat))
def w4 (x : Nat) : Nat := whole (whole (whole (whole x)))
theorem put_split (x : Nat) (c : UInt8) (y : Nat) : whole (x ^^^ (c.toNat ^^^ 256 * y)) = put x c ^^^ y := by
  rw [← Nat.xor_assoc, whole_lin, whole_256]; rfl
theorem reg_word (s : Nat) (a b c d : UInt8) : reg s [a, b, c, d] = w4 (s ^^^ word a b c d) := by
  unfold w4 word
  rw [put_split, put_split, put_split]
  rfl
theorem word_lt (a b c d : UInt8) : word a b c d < 4294967296 := by
  have h1 := a.toNat_lt; have h2 := b.toNat_lt; have h3 := c.toNat_lt; have h4 := d.toNat_lt
  unfold word
  have e1 : c.toNat ^^^ 256 * d.toNat < 65536 := Nat.xor_lt_two_pow (n := 16) (by omega) (by omega)
  have e2 : b.toNat ^^^ 256 * (c.toNat ^^^ 256 * d.toNat) < 16777216 := Nat.xor_lt_two_pow (n := 24) (by omega) (by omega)
  exact Nat.xor_lt_two_pow (n := 32) (by omega) (by omega)
theorem byte_join (a : UInt8) (y : Nat) : a.toNat ^^^ 256 * y = y * 256 + a.toNat := by
  have h := xor_join 8 y a.toNat (by have := a.toNat_lt; omega)
  rw [Nat.xor_comm, Nat.mul_comm]; exact h
theorem word_eq (a b c d : UInt8) : word a b c d = a.toNat + 256 * b.toNat + 65536 * c.toNat + 16777216 * d.toNat := by
  unfold word
  rw [byte_join, byte_join, byte_join]; omega
theorem w4_lt (x : Nat) (h : x < 4294967296) : w4 x < 4294967296 := whole_lt _ (whole_lt _ (whole_lt _ (whole_lt _ h)))
theorem w4_inj (x y : Nat) (hx : x < 4294967296) (hy : y < 4294967296) (h : w4 x = w4 y) : x = y := by
  have a1 := whole_inj _ _ (whole_lt _ (whole_lt _ (whole_lt _ hx))) (whole_lt _ (whole_lt _ (whole_lt _ hy))) h
  have a2 := whole_inj _ _ (whole_lt _ (whole_lt _ hx)) (whole_lt _ (whole_lt _ hy)) a1
  have a3 := whole_inj _ _ (whole_lt _ hx) (whole_lt _ hy) a2
  exact whole_inj _ _ hx hy a3
/-! four bytes side by side -/
theorem reg_burst (s : Nat) (hs : s < 4294967296) (a b c d e f g h : UInt8) (l : List UInt8) :
    reg s ([a, b, c, d] ++ l) = reg s ([a ^^^ e, b ^^^ f, c ^^^ g, d ^^^ h] ++ l) ↔ e = 0 ∧ f = 0 ∧ g = 0 ∧ h = 0 := by
  constructor
  · intro hh
    rw [reg_append, reg_append] at hh
    rw [reg_word, reg_word] at hh
    have h1 := reg_inj l _ _ (w4_lt _ (Nat.xor_lt_two_pow (n := 32) hs (word_lt _ _ _ _))) (w4_lt _ (Nat.xor_lt_two_pow (n := 32) hs (word_lt _ _ _ _))) hh
    have h2 := w4_inj _ _ (Nat.xor_lt_two_pow (n := 32) hs (word_lt _ _ _ _)) (Nat.xor_lt_two_pow (n := 32) hs (word_lt _ _ _ _)) h1
    have h3 : word a b c d = word (a ^^^ e) (b ^^^ f) (c ^^^ g) (d ^^^ h) := by
      have := congrArg (s ^^^ ·) h2
      simpa [← Nat.xor_assoc] using this
    rw [word_eq, word_eq] at h3
    have A := a.toNat_lt; have B := b.toNat_lt; have C := c.toNat_lt; have D := d.toNat_lt
    have A' := (a ^^^ e).toNat_lt; have B' := (b ^^^ f).toNat_lt; have C' := (c ^^^ g).toNat_lt; have D' := (d ^^^ h).toNat_lt
    have q1 : a.toNat = (a ^^^ e).toNat := by omega
    have q2 : b.toNat = (b ^^^ f).toNat := by omega
    have q3 : c.toNat = (c ^^^ g).toNat := by omega
    have q4 : d.toNat = (d ^^^ h).toNat := by omega
    have z : ∀ x y : UInt8, x.toNat = (x ^^^ y).toNat → y = 0 := by
      intro x y hxy
      have h0 : x = x ^^^ y := UInt8.toNat_inj.mp hxy
      have h1 := congrArg (x ^^^ ·) h0
      simp [← UInt8.xor_assoc] at h1
      exact h1.symm
    exact ⟨z _ _ q1, z _ _ q2, z _ _ q3, z _ _ q4⟩
  · rintro ⟨rfl, rfl, rfl, rfl⟩
    simp
/-! the four bytes that bring it anywhere -/
def u8 (x : Nat) : Nat := undone (undone (undone (undone (undone (undone (undone (undone x)))))))
theorem u8_lt (x : Nat) (h : x < 4294967296) : u8 x < 4294967296 := by
  unfold u8
  repeat (first | exact h | apply undone_lt)
theorem w4_u8 (x : Nat) (h : x < 4294967296) : w4 (u8 x) = x := by
  unfold w4 whole u8
  have l1 := undone_lt x h
  have l2 := undone_lt _ l1
  have l3 := undone_lt _ l2
  have l4 := undone_lt _ l3
  have l5 := undone_lt _ l4
  have l6 := undone_lt _ l5
  have l7 := undone_lt _ l6
  rw [half_undone _ l7, half_undone _ l6, half_undone _ l5, half_undone _ l4, half_undone _ l3, half_undone _ l2, half_undone _ l1, half_undone _ h]
def tail (sum want : Nat) : Nat := u8 (inv want) ^^^ inv sum
theorem tail_lt (sum want : Nat) (h1 : sum < 4294967296) (h2 : want < 4294967296) : tail sum want < 4294967296 :=
  Nat.xor_lt_two_pow (n := 32) (u8_lt _ (inv_lt _ h2)) (inv_lt _ h1)
theorem of_tail (b : List UInt8) (want : Nat) (hw : want < 4294967296) (p q r s : UInt8) :
    of (b ++ [p, q, r, s]) = want ↔ word p q r s = tail (of b) want := by
  have hs := reg_lt b 4294967295 (by omega)
  unfold of tail
  rw [inv_inv _ hs, reg_append, reg_word]
  generalize reg 4294967295 b = x at *
  have hlt : x ^^^ word p q r s < 4294967296 := Nat.xor_lt_two_pow (n := 32) hs (word_lt _ _ _ _)
  constructor
  · intro h
    have h1 : w4 (x ^^^ word p q r s) = w4 (u8 (inv want)) := by
      rw [w4_u8 _ (inv_lt _ hw), ← h, inv_inv _ (w4_lt _ hlt)]
    have h2 := w4_inj _ _ hlt (u8_lt _ (inv_lt _ hw)) h1
    rw [← h2, Nat.xor_comm x, Nat.xor_assoc, Nat.xor_self, Nat.xor_zero]
  · intro h
    rw [h, Nat.xor_comm (u8 (inv want)), ← Nat.xor_assoc, Nat.xor_self, Nat.zero_xor, w4_u8 _ (inv_lt _ hw), inv_inv _ hw]
/-! bit by bit -/
def bitstep (x : Nat) : Nat := if x % 2 = 1 then x / 2 ^^^ 3988292384 else x / 2
def step (x : Nat) (c : UInt8) : Nat :=
  bitstep (bitstep (bitstep (bitstep (bitstep (bitstep (bitstep (bitstep (x ^^^ c.toNat))))))))
theorem bitstep_eq (x : Nat) : bitstep x = x / 2 ^^^ [0, 3988292384].getD (x % 2) 0 := by
  unfold bitstep
  rcases Nat.mod_two_eq_zero_or_one x with h | h <;> simp [h]
theorem bitstep_lin (x y : Nat) : bitstep (x ^^^ y) = bitstep x ^^^ bitstep y := by
  simp only [bitstep_eq]
  have h1 : (x ^^^ y) / 2 = x / 2 ^^^ y / 2 := Nat.xor_div_two_pow (n := 1)
  have h2 : (x ^^^ y) % 2 = x % 2 ^^^ y % 2 := Nat.xor_mod_two_pow (n := 1)
  have h3 : ∀ i, i < 2 → ∀ j, j < 2 → [0, 3988292384].getD (i ^^^ j) 0 = [0, 3988292384].getD i 0 ^^^ [0, 3988292384].getD j 0 := by decide
  rw [h1, h2, h3 _ (Nat.mod_lt _ (by decide)) _ (Nat.mod_lt _ (by decide))]
  ac_rfl
theorem bitstep_2 (y : Nat) : bitstep (2 * y) = y := by
  unfold bitstep; rw [if_neg (by omega)]; omega
theorem four_bits (x : Nat) : bitstep (bitstep (bitstep (bitstep x))) = half x := by
  have hx := xor_join 4 (x / 16) (x % 16) (by omega)
  rw [show (2 : Nat) ^ 4 = 16 from rfl, show x / 16 * 16 + x % 16 = x by omega] at hx
  have e : x / 16 * 16 = 2 * (2 * (2 * (2 * (x / 16)))) := by omega
  conv => lhs; rw [← hx, e]
  simp only [bitstep_lin, bitstep_2]
  have h3 : ∀ i, i < 16 → bitstep (bitstep (bitstep (bitstep i))) = tab.getD i 0 := by decide
  rw [h3 _ (Nat.mod_lt _ (by decide))]
  rfl
theorem step_eq (x : Nat) (c : UInt8) : step x c = put x c := by
  unfold step put whole
  rw [four_bits, four_bits]
theorem bitstep_lt (x : Nat) (h : x < 4294967296) : bitstep x < 4294967296 := by
  unfold bitstep
  split
  · exact Nat.xor_lt_two_pow (n := 32) (by omega) (by omega)
  · omega
end Go.Proofs.YtkgnihpcldgedaaDoor.PCrc
