/- What is begun, plain: which bits it has, and that it may be. -/
import Derived.Test.YtcgmbfgmofcemaaBirthF
namespace Go.Proofs.Ytcgmbfgmofcemaa
set_option maxRecDepth 4000
open Go Go.Par PH
/-! Bits of naturals. -/
theorem and_zero_of {a m : Nat} (hm : m < 65536) (H : ∀ i, a.testBit i = true → m.testBit i = true) : a &&& (65535 - m) = 0 := by
  apply Nat.eq_of_testBit_eq
  intro i
  have e : 65535 - m = 2 ^ 16 - (m + 1) := by omega
  rw [Nat.testBit_and, e, Nat.testBit_two_pow_sub_succ (by omega), Nat.zero_testBit]
  cases h : a.testBit i with
  | false => rfl
  | true => rw [H i h]; simp
theorem join3 {a b c : Nat} (hb : b < 8) (hc : c < 8) (i : Nat) : (a * 64 + b * 8 + c).testBit i = if i < 3 then c.testBit i else if i < 6 then b.testBit (i - 3) else a.testBit (i - 6) := by
  have e : a * 64 + b * 8 + c = 2 ^ 3 * (2 ^ 3 * a + b) + c := by omega
  rw [e, Nat.testBit_two_pow_mul_add _ (by omega : c < 2 ^ 3)]
  split
  · rfl
  · rw [Nat.testBit_two_pow_mul_add _ (by omega : b < 2 ^ 3)]
    by_cases h : i < 6
    · rw [if_pos (by omega), if_pos h]
    · rw [if_neg (by omega), if_neg h]; congr 1
theorem digit (m k j : Nat) (hj : j < 3) : (m / 2 ^ k % 8).testBit j = m.testBit (j + k) := by
  have e : (8 : Nat) = 2 ^ 3 := rfl
  rw [e, Nat.testBit_mod_two_pow, Nat.testBit_div_two_pow]; simp [hj]
theorem lt8_bit {a i : Nat} (h : a < 8) (hi : a.testBit i = true) : i < 3 := by
  rcases Nat.lt_or_ge i 3 with h3 | h3
  · exact h3
  · have : a < 2 ^ i := Nat.lt_of_lt_of_le h (Nat.pow_le_pow_right (n := 2) (by omega) h3)
    rw [Nat.testBit_lt_two_pow this] at hi; cases hi
/-- Three perms, each within a digit of the mode. -/
theorem sub3 {a b c m : Nat} (hm : m < 65536) (ha : a < 8) (hb : b < 8) (hc : c < 8) (h1 : ∀ i, a.testBit i = true → (m / 64 % 8).testBit i = true) (h2 : ∀ i, b.testBit i = true → (m / 8 % 8).testBit i = true) (h3 : ∀ i, c.testBit i = true → (m % 8).testBit i = true) :
    (a * 64 + b * 8 + c) &&& (65535 - m) = 0 := by
  refine and_zero_of hm fun i hi => ?_
  rw [join3 hb hc] at hi
  split at hi
  · rename_i h
    have := h3 i hi
    have e := digit m 0 i h
    rw [show m / 2 ^ 0 = m from by simp] at e
    rw [e] at this; exact this
  · split at hi
    · rename_i h h'
      have := h2 _ hi
      have e := digit m 3 (i - 3) (by omega)
      rw [show (2 : Nat) ^ 3 = 8 from rfl] at e
      rw [e] at this
      rwa [show i - 3 + 3 = i by omega] at this
    · rename_i h h'
      have h9 := lt8_bit ha hi
      have := h1 _ hi
      have e := digit m 6 (i - 6) (by omega)
      rw [show (2 : Nat) ^ 6 = 64 from rfl] at e
      rw [e] at this
      rwa [show i - 6 + 6 = i by omega] at this
/-! Perms. -/
theorem and_ok {a b : Int} (ha : u8 a) (hb : u8 b) : ∃ n : Nat, bits .and .u8 a b = (n : Int) ∧ n = a.toNat &&& b.toNat ∧ n ≤ a.toNat ∧ n ≤ b.toNat := by
  unfold u8 at ha hb
  exact ⟨_, u8_and a b (by omega) (by omega) (by omega) (by omega), rfl, Nat.and_le_left, Nat.and_le_right⟩
theorem and_u8 {a b : Int} (ha : u8 a) (hb : u8 b) : u8 (bits .and .u8 a b) ∧ bits .and .u8 a b ≤ a ∧ bits .and .u8 a b ≤ b := by
  obtain ⟨n, e, -, h1, h2⟩ := and_ok ha hb
  unfold u8 at *
  rw [e]; omega
theorem u8_0 : u8 0 := ⟨by decide, by decide⟩
theorem u8_7 : u8 7 := ⟨by decide, by decide⟩
theorem m8_u8 (m : Int) : u8 (m % 8) := by unfold u8; omega
theorem mAcc_ok {p : Attr} {umask mode : Int} (hok : p.Ok) : (mAcc p umask mode).Ok := by
  have hd := hok.df
  unfold mAcc
  split
  · refine ⟨(and_u8 hd.o (m8_u8 _)).1, ?_, (and_u8 hd.t (m8_u8 _)).1, ?_, hd.us, hd.gs⟩
    · dsimp only; split
      · exact hd.g
      · exact (and_u8 hd.g (m8_u8 _)).1
    · dsimp only; split
      · exact (and_u8 hd.m (m8_u8 _)).1
      · exact hd.m
  · exact ⟨m8_u8 _, m8_u8 _, m8_u8 _, u8_0, fun x hx => (by cases hx), fun x hx => by cases hx⟩
theorem acl0_ok : acl0.Ok := ⟨⟨by decide, by decide⟩, ⟨by decide, by decide⟩, ⟨by decide, by decide⟩, ⟨by decide, by decide⟩, fun x hx => (by cases hx), fun x hx => by cases hx⟩
theorem attr0_ok : attr0.Ok := ⟨⟨by decide, by decide⟩, ⟨by decide, by decide⟩, ⟨by decide, by decide⟩, acl0_ok, acl0_ok⟩
theorem fbits_ok {mode : Int} : u8 (bits .andNot .u8 (mode / 512 % 8) 2) ∧ bits .andNot .u8 (mode / 512 % 8) 2 ≤ 7 := by
  have h := u8_andNot (mode / 512 % 8) 2 (by omega) (by omega) (by omega) (by omega)
  have hl : (mode / 512 % 8).toNat &&& (255 - (2 : Int).toNat) ≤ (mode / 512 % 8).toNat := Nat.and_le_left
  unfold u8
  rw [h]; omega
theorem dbits_ok {mode b : Int} (hb : u8 b) : u8 (bits .or .u8 (bits .and .u8 (mode / 512 % 8) 1) (bits .and .u8 b 2)) ∧ bits .or .u8 (bits .and .u8 (mode / 512 % 8) 1) (bits .and .u8 b 2) ≤ 7 := by
  have h1 := (and_u8 (a := mode / 512 % 8) (b := 1) (m8_u8 _) ⟨by decide, by decide⟩)
  have h2 := (and_u8 (a := b) (b := 2) hb ⟨by decide, by decide⟩)
  generalize bits .and .u8 (mode / 512 % 8) 1 = x at h1
  generalize bits .and .u8 b 2 = y at h2
  unfold u8 at *
  rw [u8_or x y (by omega) (by omega) (by omega) (by omega)]
  have : x.toNat ||| y.toNat < 2 ^ 3 := Nat.or_lt_two_pow (by omega) (by omega)
  omega
theorem bornG_ok {c : Cred} {p : Attr} (hc : c.Ok) (hok : p.Ok) : u16 (bornG c p) := by
  unfold bornG; split
  · exact hc.gid
  · exact hok.gid
theorem born_ok {c : Cred} {umask : Int} {p : Attr} {kind mode : Int} (hc : c.Ok) (hok : p.Ok) : (born c umask p kind mode).Ok := by
  unfold born
  split
  · exact ⟨u8_0, hc.uid, bornG_ok hc hok, ⟨u8_7, u8_7, u8_7, u8_0, fun x hx => (by cases hx), fun x hx => by cases hx⟩, acl0_ok⟩
  · split
    · refine ⟨?_, hc.uid, bornG_ok hc hok, mAcc_ok hok, acl0_ok⟩
      dsimp only; split
      · exact fbits_ok.1
      · exact m8_u8 _
    · exact ⟨(dbits_ok hok.bits).1, hc.uid, bornG_ok hc hok, mAcc_ok hok, hok.df⟩
/-! What is begun may be. -/
theorem p7_iff {a : Acl} : a.p7 = true ↔ a.o ≤ 7 ∧ a.g ≤ 7 ∧ a.t ≤ 7 ∧ a.m ≤ 7 := by
  simp [Acl.p7, allB, and_assoc]
theorem may_iff {a : Acl} : a.may = true ↔ (a.o ≤ 7 ∧ a.g ≤ 7 ∧ a.t ≤ 7 ∧ a.m ≤ 7) ∧ namedB a.us = true ∧ namedB a.gs = true ∧ a.lone = true := by
  unfold Acl.may
  simp only [Bool.and_eq_true, p7_iff]
  constructor
  · rintro ⟨⟨⟨h1, h2⟩, h3⟩, h4⟩; exact ⟨h1, h2, h3, h4⟩
  · rintro ⟨h1, h2, h3, h4⟩; exact ⟨⟨⟨h1, h2⟩, h3⟩, h4⟩
theorem namedB_nil : namedB [] = true := by decide
theorem acl777 : (⟨7, 7, 7, [], [], false, 0⟩ : Acl).may = true := by decide
theorem dfz : (if (false : Bool) = true then acl0.may else decide (acl0 = acl0)) = true := by decide
theorem mAcc_may {p : Attr} {umask mode : Int} (hok : p.Ok) (hm : p.hd = true → p.df.may = true) : (mAcc p umask mode).may = true := by
  have hd := hok.df
  unfold mAcc
  split
  · rename_i h
    obtain ⟨⟨h1, h2, h3, h4⟩, h5, h6, h7⟩ := may_iff.1 (hm h)
    have a1 := (and_u8 hd.o (m8_u8 (mode / 64))).2.1
    have a2 := (and_u8 hd.g (m8_u8 (mode / 8))).2.1
    have a3 := (and_u8 hd.t (m8_u8 mode)).2.1
    have a4 := (and_u8 hd.m (m8_u8 (mode / 8))).2.1
    refine may_iff.2 ⟨⟨by dsimp only; omega, ?_, by dsimp only; omega, ?_⟩, h5, h6, ?_⟩
    · dsimp only; split <;> omega
    · dsimp only; split <;> omega
    · unfold Acl.lone at h7 ⊢
      dsimp only
      cases hh : p.df.hm with
      | true => rfl
      | false => rw [hh] at h7; simpa using h7
  · refine may_iff.2 ⟨⟨by dsimp only; omega, by dsimp only; omega, by dsimp only; omega, (by decide : (0 : Int) ≤ 7)⟩, namedB_nil, namedB_nil, ?_⟩
    simp [Acl.lone]
theorem may_parts {a : Attr} : a.may = true ↔ a.bits ≤ 7 ∧ a.acc.may = true ∧ a.xs.length ≤ 4 ∧ (if a.hd then a.df.may else decide (a.df = acl0)) = true ∧ allB a.xs.length (goodX a.xs) = true := by
  unfold Attr.may
  simp only [Bool.and_eq_true, decide_eq_true_eq]
  constructor
  · rintro ⟨⟨⟨⟨h1, h2⟩, h3⟩, h4⟩, h5⟩; exact ⟨h1, h2, h3, h4, h5⟩
  · rintro ⟨h1, h2, h3, h4, h5⟩; exact ⟨⟨⟨⟨h1, h2⟩, h3⟩, h4⟩, h5⟩
theorem born_may {c : Cred} {umask : Int} {p : Attr} {kind mode : Int} (hok : p.Ok) (hp : p.may = true) : (born c umask p kind mode).may = true := by
  obtain ⟨_, _, _, hdf, _⟩ := may_parts.1 hp
  have hmd : p.hd = true → p.df.may = true := fun h => by rw [h] at hdf; exact hdf
  unfold born
  split
  · exact may_parts.2 ⟨(by decide : (0 : Int) ≤ 7), acl777, Nat.zero_le _, dfz, rfl⟩
  · split
    · refine may_parts.2 ⟨?_, mAcc_may hok hmd, Nat.zero_le _, dfz, rfl⟩
      dsimp only; split
      · exact fbits_ok.2
      · omega
    · exact may_parts.2 ⟨(dbits_ok hok.bits).2, mAcc_may hok hmd, Nat.zero_le _, hdf, rfl⟩
/-! Its nine bits. -/
theorem and_sub {a m : Int} (ha : u8 a) (k : Int) : ∀ i, (bits .and .u8 a (m / k % 8)).toNat.testBit i = true → (m / k % 8).toNat.testBit i = true := fun i h => by
  obtain ⟨n, e, e2, _, _⟩ := and_ok ha (m8_u8 (m / k))
  rw [e, Int.toNat_natCast, e2, Nat.testBit_and, Bool.and_eq_true] at h
  exact h.2
theorem mAcc_bits {p : Attr} {umask mode : Int} (hok : p.Ok) (hu : u16 umask) (hm : u16 mode) : u16 (mAcc p umask mode).bits ∧ bits .andNot .u16 (mAcc p umask mode).bits mode = 0 := by
  have hO := mAcc_ok (umask := umask) (mode := mode) hok
  have hd := hok.df
  have hB : 0 ≤ (mAcc p umask mode).bits ∧ (mAcc p umask mode).bits < 512 := by
    have h1 := hO.o; have h2 := hO.g; have h3 := hO.t; have h4 := hO.m
    unfold u8 at h1 h2 h3 h4
    unfold Acl.bits Acl.cls
    split <;> omega
  refine ⟨by unfold u16; omega, ?_⟩
  unfold u16 at hm hu
  rw [u16_andNot _ mode hB.1 (by omega) (by omega) (by omega)]
  have key : (mAcc p umask mode).bits.toNat &&& (65535 - mode.toNat) = 0 := by
    unfold mAcc
    split
    · rename_i hh
      have a1 := and_u8 hd.o (m8_u8 (mode / 64))
      have a3 := and_u8 hd.t (m8_u8 mode)
      have a2 : ∃ z, (if p.df.hm then p.df.m else p.df.g) = z ∧ u8 z := ⟨_, rfl, by split; exact hd.m; exact hd.g⟩
      obtain ⟨z, hz, hz8⟩ := a2
      have a2 := and_u8 hz8 (m8_u8 (mode / 8))
      have s1 := and_sub (m := mode) hd.o 64
      have s2 := and_sub (m := mode) hz8 8
      have s3 := and_sub (m := mode) hd.t 1
      rw [Int.ediv_one] at s3
      have hbits : Acl.bits ⟨bits .and .u8 p.df.o (mode / 64 % 8), if p.df.hm then p.df.g else bits .and .u8 p.df.g (mode / 8 % 8), bits .and .u8 p.df.t (mode % 8), p.df.us, p.df.gs, p.df.hm, if p.df.hm then bits .and .u8 p.df.m (mode / 8 % 8) else p.df.m⟩ = bits .and .u8 p.df.o (mode / 64 % 8) % 8 * 64 + bits .and .u8 z (mode / 8 % 8) % 8 * 8 + bits .and .u8 p.df.t (mode % 8) % 8 := by
        unfold Acl.bits Acl.cls
        subst hz
        cases p.df.hm <;> rfl
      rw [hbits]
      generalize bits .and .u8 p.df.o (mode / 64 % 8) = x at a1 s1
      generalize bits .and .u8 z (mode / 8 % 8) = y at a2 s2
      generalize bits .and .u8 p.df.t (mode % 8) = w at a3 s3
      unfold u8 at a1 a2 a3
      have e1 : (x % 8 * 64 + y % 8 * 8 + w % 8).toNat = x.toNat * 64 + y.toNat * 8 + w.toNat := by omega
      rw [e1]
      have n1 : (mode / 64 % 8).toNat = mode.toNat / 64 % 8 := by omega
      have n2 : (mode / 8 % 8).toNat = mode.toNat / 8 % 8 := by omega
      have n3 : (mode % 8).toNat = mode.toNat % 8 := by omega
      rw [n1] at s1; rw [n2] at s2; rw [n3] at s3
      exact sub3 (by omega) (by omega) (by omega) (by omega) s1 s2 s3
    · have hb := u16_andNot mode umask (by omega) (by omega) (by omega) (by omega)
      generalize hbb : bits .andNot .u16 mode umask = b at hb
      have e1 : (Acl.bits ⟨b / 64 % 8, b / 8 % 8, b % 8, [], [], false, 0⟩).toNat = b.toNat % 512 := by
        unfold Acl.bits Acl.cls
        simp only [Bool.false_eq_true, if_false]
        omega
      rw [e1]
      refine and_zero_of (by omega) fun i hi => ?_
      rw [show (512 : Nat) = 2 ^ 9 from rfl, Nat.testBit_mod_two_pow, Bool.and_eq_true] at hi
      have h2 := hi.2
      rw [hb, Int.toNat_natCast, Nat.testBit_and, Bool.and_eq_true] at h2
      exact h2.1
  rw [key]; rfl
theorem mAcc_plain {p : Attr} {umask mode : Int} (hu : u16 umask) (hm : u16 mode) (hh : p.hd = false) : (mAcc p umask mode).bits = bits .and .u16 (bits .andNot .u16 mode umask) 511 ∧ (mAcc p umask mode).hm = false := by
  unfold u16 at hu hm
  have hb := u16_andNot_ok (a := mode) (b := umask) (by omega) (by omega) (by omega) (by omega)
  unfold mAcc
  rw [hh]
  simp only [Bool.false_eq_true, if_false]
  generalize bits .andNot .u16 mode umask = b at hb
  refine ⟨?_, trivial⟩
  rw [u16_and b 511 (by omega) (by omega) (by omega) (by omega)]
  have e : (511 : Int).toNat = 2 ^ 9 - 1 := rfl
  rw [e, Nat.and_two_pow_sub_one_eq_mod]
  unfold Acl.bits Acl.cls
  simp only [Bool.false_eq_true, if_false]
  omega
end Go.Proofs.Ytcgmbfgmofcemaa
