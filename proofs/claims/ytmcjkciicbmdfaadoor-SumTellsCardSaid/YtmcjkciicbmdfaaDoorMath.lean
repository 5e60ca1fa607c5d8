/- Plain mathematics of the checksum: CRC-32C is affine over xor, injective in its register, and detects bursts. No program in sight. -/
namespace SumMath
def stp (c : Nat) : Nat := if c % 2 = 1 then (c / 2) ^^^ 2197175160 else c / 2
def four (j : Nat) : Nat := stp (stp (stp (stp j)))
def nib (c : Nat) : Nat := (c / 16) ^^^ four (c % 16)
def byt (c b : Nat) : Nat := nib (nib (c ^^^ b))
def crcTo (c : Nat) (l : List Nat) : Nat := l.foldl byt c
def crc (l : List Nat) : Nat := 4294967295 ^^^ crcTo 4294967295 l

theorem xor_half (a b : Nat) : (a ^^^ b) / 2 = (a / 2) ^^^ (b / 2) := Nat.xor_div_two
theorem xor_mod2 (a b : Nat) : (a ^^^ b) % 2 = (a % 2 + b % 2) % 2 := by
  have h := Nat.xor_mod_two_pow (a := a) (b := b) (n := 1)
  simp at h
  rw [h]
  rcases Nat.mod_two_eq_zero_or_one a with ha | ha <;> rcases Nat.mod_two_eq_zero_or_one b with hb | hb <;> simp [ha, hb]
theorem stp_xor (a b : Nat) : stp (a ^^^ b) = stp a ^^^ stp b := by
  have h := xor_mod2 a b
  have e := xor_half a b
  unfold stp
  rcases Nat.mod_two_eq_zero_or_one a with ha | ha <;> rcases Nat.mod_two_eq_zero_or_one b with hb | hb
  · rw [ha, hb] at h; simp [h, ha, hb, e]
  · rw [ha, hb] at h; simp [h, ha, hb, e, Nat.xor_assoc]
  · rw [ha, hb] at h; simp [h, ha, hb, e]; rw [Nat.xor_assoc, Nat.xor_assoc, Nat.xor_comm (b/2)]
  · rw [ha, hb] at h; simp [h, ha, hb, e]
    generalize a / 2 = x; generalize b / 2 = y; generalize 2197175160 = p
    rw [Nat.xor_comm y p, Nat.xor_assoc, ← Nat.xor_assoc p p y, Nat.xor_self, Nat.zero_xor]
theorem stp_zero : stp 0 = 0 := by decide
theorem stp_lt (c n : Nat) (hn : 32 ≤ n) (h : c < 2 ^ n) : stp c < 2 ^ n := by
  unfold stp
  split
  · exact Nat.xor_lt_two_pow (by omega) (Nat.lt_of_lt_of_le (by decide : 2197175160 < 2 ^ 32) (Nat.pow_le_pow_right (by decide) hn))
  · omega
theorem stp_ne (c : Nat) (h : c < 4294967296) (h0 : c ≠ 0) : stp c ≠ 0 := by
  unfold stp
  split
  · intro e
    have : c / 2 = 2197175160 := by
      have := congrArg (· ^^^ 2197175160) e
      simpa [Nat.xor_assoc] using this
    omega
  · omega
def stps : Nat → Nat → Nat
  | 0, c => c
  | n + 1, c => stps n (stp c)
theorem stps_xor (n a b : Nat) : stps n (a ^^^ b) = stps n a ^^^ stps n b := by
  induction n generalizing a b with
  | zero => rfl
  | succ n ih => simp [stps, stp_xor, ih]
theorem stps_add (m n c : Nat) : stps (m + n) c = stps n (stps m c) := by
  induction m generalizing c with
  | zero => simp [stps]
  | succ m ih => rw [Nat.succ_add]; exact ih _
theorem stps_lt (n c k : Nat) (hk : 32 ≤ k) (h : c < 2 ^ k) : stps n c < 2 ^ k := by
  induction n generalizing c with
  | zero => exact h
  | succ n ih => exact ih _ (stp_lt c k hk h)
theorem stps_ne (n c : Nat) (h : c < 4294967296) (h0 : c ≠ 0) : stps n c ≠ 0 := by
  induction n generalizing c with
  | zero => exact h0
  | succ n ih => exact ih _ (stp_lt c 32 (by decide) h) (stp_ne c h h0)
theorem stps_zero (n : Nat) : stps n 0 = 0 := by induction n with | zero => rfl | succ n ih => simpa [stps, stp_zero] using ih
theorem stps_shift (n q : Nat) : stps n (2 ^ n * q) = q := by
  induction n generalizing q with
  | zero => simp [stps]
  | succ n ih =>
    have e : 2 ^ (n + 1) * q = 2 * (2 ^ n * q) := by rw [Nat.pow_succ, Nat.mul_comm (2 ^ n) 2, Nat.mul_assoc]
    simp only [stps]
    have : stp (2 ^ (n + 1) * q) = 2 ^ n * q := by rw [e]; unfold stp; rw [if_neg (by omega)]; omega
    rw [this, ih]
theorem add_eq_xor (i a b : Nat) (h : b < 2 ^ i) : 2 ^ i * a + b = (2 ^ i * a) ^^^ b := by
  apply Nat.eq_of_testBit_eq; intro j
  rw [Nat.testBit_two_pow_mul_add a h, Nat.testBit_xor, Nat.testBit_two_pow_mul]
  by_cases hj : j < i
  · simp [hj, show ¬ i ≤ j by omega]
  · have : b.testBit j = false := Nat.testBit_lt_two_pow (Nat.lt_of_lt_of_le h (Nat.pow_le_pow_right (by decide) (by omega)))
    simp [hj, this, show i ≤ j by omega]
theorem split16 (c : Nat) : c = (2 ^ 4 * (c / 16)) ^^^ (c % 16) := by
  rw [← add_eq_xor 4 _ _ (by omega)]; omega
theorem nib_eq (c : Nat) : nib c = stps 4 c := by
  conv => rhs; rw [split16 c, stps_xor, stps_shift]
  rfl
theorem byt_eq (c b : Nat) : byt c b = stps 8 (c ^^^ b) := by
  unfold byt; rw [nib_eq, nib_eq, ← stps_add]
theorem byt_lt (c b : Nat) (hc : c < 4294967296) (hb : b < 256) : byt c b < 4294967296 := by
  rw [byt_eq]
  exact stps_lt 8 _ 32 (by decide) (Nat.xor_lt_two_pow hc (by omega))
theorem crcTo_lt (l : List Nat) (c : Nat) (hc : c < 4294967296) (hl : ∀ b ∈ l, b < 256) : crcTo c l < 4294967296 := by
  induction l generalizing c with
  | nil => exact hc
  | cons b l ih => exact ih _ (byt_lt c b hc (hl b (by simp))) (fun x hx => hl x (by simp [hx]))
theorem xor_ne {a b : Nat} (h : a ≠ b) : a ^^^ b ≠ 0 := by
  intro e
  apply h
  have := congrArg (· ^^^ b) e
  simpa [Nat.xor_assoc] using this
theorem stps_inj (n a b : Nat) (ha : a < 4294967296) (hb : b < 4294967296) (h : stps n a = stps n b) : a = b := by
  apply Classical.byContradiction
  intro hne
  exact stps_ne n (a ^^^ b) (Nat.xor_lt_two_pow (n := 32) ha hb) (xor_ne hne) (by rw [stps_xor, h, Nat.xor_self])
theorem xor_right_inj {a b c : Nat} (h : a ^^^ c = b ^^^ c) : a = b := by
  have := congrArg (· ^^^ c) h
  simpa [Nat.xor_assoc] using this
theorem xor_left_inj {a b c : Nat} (h : c ^^^ a = c ^^^ b) : a = b := by
  rw [Nat.xor_comm c, Nat.xor_comm c] at h; exact xor_right_inj h
theorem crcTo_inj (l : List Nat) (c d : Nat) (hc : c < 4294967296) (hd : d < 4294967296) (hl : ∀ b ∈ l, b < 256) (h : crcTo c l = crcTo d l) : c = d := by
  induction l generalizing c d with
  | nil => exact h
  | cons b l ih =>
    have hb := hl b (by simp)
    have e := ih _ _ (byt_lt c b hc hb) (byt_lt d b hd hb) (fun x hx => hl x (by simp [hx])) h
    rw [byt_eq, byt_eq] at e
    exact xor_right_inj (stps_inj 8 _ _ (Nat.xor_lt_two_pow (n := 32) hc (by omega)) (Nat.xor_lt_two_pow (n := 32) hd (by omega)) e)
theorem crcTo_append (c : Nat) (a b : List Nat) : crcTo c (a ++ b) = crcTo (crcTo c a) b := List.foldl_append ..
/-- SumGoes. -/
theorem goes (a b c : List Nat) (ha : ∀ x ∈ a, x < 256) (hb : ∀ x ∈ b, x < 256) (hc : ∀ x ∈ c, x < 256) : crc a = crc b ↔ crc (a ++ c) = crc (b ++ c) := by
  unfold crc
  rw [crcTo_append, crcTo_append]
  constructor
  · intro h; rw [xor_left_inj h]
  · intro h; rw [crcTo_inj c _ _ (crcTo_lt a _ (by decide) ha) (crcTo_lt b _ (by decide) hb) hc (xor_left_inj h)]
theorem xor_swap (p q x y : Nat) : (p ^^^ q) ^^^ (x ^^^ y) = (p ^^^ x) ^^^ (q ^^^ y) := by
  rw [Nat.xor_assoc, Nat.xor_assoc]; congr 1; rw [← Nat.xor_assoc, ← Nat.xor_assoc, Nat.xor_comm q x]
def xor2 (a b : List Nat) : List Nat := List.zipWith (· ^^^ ·) a b
theorem crcTo_xor (a b : List Nat) (p q : Nat) (h : a.length = b.length) : crcTo (p ^^^ q) (xor2 a b) = crcTo p a ^^^ crcTo q b := by
  induction a generalizing b p q with
  | nil => cases b with
    | nil => rfl
    | cons => simp at h
  | cons x a ih => cases b with
    | nil => simp at h
    | cons y b =>
      have e : byt (p ^^^ q) (x ^^^ y) = byt p x ^^^ byt q y := by rw [byt_eq, byt_eq, byt_eq, xor_swap, stps_xor]
      show crcTo (byt (p ^^^ q) (x ^^^ y)) (xor2 a b) = _
      rw [e]
      exact ih b _ _ (by simpa using h)
/-- SumAffine. -/
theorem affine (a b c : List Nat) (hb : b.length = a.length) (hc : c.length = a.length) : crc (xor2 (xor2 a b) c) = (crc a ^^^ crc b) ^^^ crc c := by
  unfold crc
  generalize 4294967295 = F
  have e := crcTo_xor (xor2 a b) c (F ^^^ F) F (by simp [xor2]; omega)
  rw [crcTo_xor a b F F hb.symm] at e
  rw [Nat.xor_self, Nat.zero_xor] at e
  rw [e]
  generalize crcTo F a = x; generalize crcTo F b = y; generalize crcTo F c = z
  have : (F ^^^ x) ^^^ (F ^^^ y) = x ^^^ y := by rw [xor_swap, Nat.xor_self, Nat.zero_xor]
  rw [this, ← Nat.xor_assoc, Nat.xor_comm F, Nat.xor_assoc]
def val : List Nat → Nat
  | [] => 0
  | b :: l => 256 * val l + b
theorem crcTo_val (l : List Nat) (c : Nat) (hl : ∀ b ∈ l, b < 256) : crcTo c l = stps (8 * l.length) (c ^^^ val l) := by
  induction l generalizing c with
  | nil => simp [crcTo, val, stps]
  | cons b l ih =>
    have hb := hl b (by simp)
    have hv : val (b :: l) = (2 ^ 8 * val l) ^^^ b := add_eq_xor 8 (val l) b hb
    show crcTo (byt c b) l = _
    rw [ih _ (fun x hx => hl x (by simp [hx])), hv, Nat.xor_comm (2 ^ 8 * val l), ← Nat.xor_assoc]
    rw [List.length_cons, show 8 * (l.length + 1) = 8 + 8 * l.length by omega, stps_add 8, stps_xor 8, stps_shift, ← byt_eq]
/-- SumBurst. -/
theorem burst (before after five other : List Nat) (x bz shift : Nat) (h5 : five.length = 5) (hby : bz < 4294967296) (h0 : bz ≠ 0) (hs : shift ≤ 8) (hx : x = bz * 2 ^ shift)
    (ho : other = xor2 five [x % 256, x / 256 % 256, x / 65536 % 256, x / 16777216 % 256, x / 4294967296 % 256])
    (hb : ∀ b ∈ before, b < 256) (hf : ∀ b ∈ five, b < 256) (ha : ∀ b ∈ after, b < 256) :
    crc (before ++ five ++ after) ≠ crc (before ++ other ++ after) := by
  intro h
  have hd : ∀ b ∈ [x % 256, x / 256 % 256, x / 65536 % 256, x / 16777216 % 256, x / 4294967296 % 256], b < 256 := by
    intro b hb; simp at hb; omega
  have hoth : ∀ b ∈ other, b < 256 := by
    match five, h5, hf with
    | [f0, f1, f2, f3, f4], _, hf =>
      subst ho
      intro b hb
      simp [xor2] at hb hf
      rcases hb with rfl | rfl | rfl | rfl | rfl <;> exact Nat.xor_lt_two_pow (n := 8) (by omega) (by omega)
  have h := xor_left_inj h
  simp only [crcTo_append] at h
  have hs0 := crcTo_lt before 4294967295 (by decide) hb
  generalize crcTo 4294967295 before = s at *
  have h := crcTo_inj after _ _ (crcTo_lt five s hs0 hf) (crcTo_lt other s hs0 hoth) ha h
  have e := crcTo_xor five [x % 256, x / 256 % 256, x / 65536 % 256, x / 16777216 % 256, x / 4294967296 % 256] s 0 (by simp [h5])
  rw [Nat.xor_zero, ← ho, ← h] at e
  have z : crcTo 0 [x % 256, x / 256 % 256, x / 65536 % 256, x / 16777216 % 256, x / 4294967296 % 256] = 0 := by
    have := congrArg (crcTo s five ^^^ ·) e
    simp only [← Nat.xor_assoc, Nat.xor_self, Nat.zero_xor] at this
    exact this.symm
  rw [crcTo_val _ _ hd, Nat.zero_xor] at z
  have hp : 2 ^ shift ≤ 256 := by
    have : 2 ^ shift ≤ 2 ^ 8 := Nat.pow_le_pow_right (by decide) hs
    omega
  have hlt : x < 1099511627776 := by
    rw [hx]
    have : bz * 2 ^ shift ≤ 4294967295 * 256 := Nat.mul_le_mul (by omega) hp
    omega
  have hv : val [x % 256, x / 256 % 256, x / 65536 % 256, x / 16777216 % 256, x / 4294967296 % 256] = x := by simp only [val]; omega
  have hlen : 8 * [x % 256, x / 256 % 256, x / 65536 % 256, x / 16777216 % 256, x / 4294967296 % 256].length = shift + (40 - shift) := by simp; omega
  rw [hv, hlen, hx, Nat.mul_comm, stps_add, stps_shift] at z
  exact stps_ne _ _ hby h0 z
theorem crc_lt (l : List Nat) (hl : ∀ b ∈ l, b < 256) : crc l < 4294967296 := Nat.xor_lt_two_pow (n := 32) (by decide) (crcTo_lt l _ (by decide) hl)
end SumMath
