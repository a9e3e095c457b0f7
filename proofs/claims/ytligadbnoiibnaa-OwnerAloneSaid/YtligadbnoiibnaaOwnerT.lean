/- Who may turn attributes: the plain law of who does not own it. It walks no code. -/
import Derived.Test.YtligadbnoiibnaaOwnerP
namespace Go.Proofs.Ytligadbnoiibnaa
set_option maxRecDepth 4000
open Go Go.Par PH
theorem p7_iff {a : Acl} : a.p7 = true ↔ a.o ≤ 7 ∧ a.g ≤ 7 ∧ a.t ≤ 7 ∧ a.m ≤ 7 := by
  simp [Acl.p7, allB, and_assoc]
theorem chmod_may {a : Acl} {b : Int} (h : a.may = true) (hb : u16 b) : (a.chmod b).may = true := by
  obtain ⟨o, g, t, us, gs, hm, m⟩ := a
  unfold u16 at hb
  unfold Acl.may at h
  simp only [Bool.and_eq_true] at h
  obtain ⟨⟨⟨h1, h2⟩, h3⟩, h4⟩ := h
  obtain ⟨p1, p2, p3, p4⟩ := p7_iff.1 h1
  simp only at *
  cases hm
  · rw [chmod_f]
    unfold Acl.may
    rw [p7_iff.2 ⟨by show b / 64 % 8 ≤ 7; omega, by show b / 8 % 8 ≤ 7; omega, by show b % 8 ≤ 7; omega, p4⟩, h2, h3]
    exact h4
  · rw [chmod_t]
    unfold Acl.may
    rw [p7_iff.2 ⟨by show b / 64 % 8 ≤ 7; omega, p2, by show b % 8 ≤ 7; omega, by show b / 8 % 8 ≤ 7; omega⟩, h2, h3]
    rfl
theorem chmod_chmod (a : Acl) (b c : Int) : (a.chmod b).chmod c = a.chmod c := by
  obtain ⟨o, g, t, us, gs, hm, m⟩ := a
  cases hm <;> rfl
theorem chmod_bits {a : Acl} {b : Int} (hb : u16 b) : (a.chmod b).bits = b % 512 := by
  obtain ⟨o, g, t, us, gs, hm, m⟩ := a
  unfold u16 at hb
  cases hm
  · show b / 64 % 8 % 8 * 64 + b / 8 % 8 % 8 * 8 + b % 8 % 8 = b % 512
    omega
  · show b / 64 % 8 % 8 * 64 + b / 8 % 8 % 8 * 8 + b % 8 % 8 = b % 512
    omega
theorem chmod_back {a : Acl} (ok : a.Ok) (hm : a.may = true) : a.chmod a.bits = a := by
  obtain ⟨o, g, t, us, gs, hm', m⟩ := a
  unfold Acl.may at hm
  simp only [Bool.and_eq_true] at hm
  obtain ⟨⟨⟨h1, h2⟩, h3⟩, h4⟩ := hm
  obtain ⟨p1, p2, p3, p4⟩ := p7_iff.1 h1
  obtain ⟨k1, k2, k3, k4, _, _⟩ := ok
  unfold u8 at k1 k2 k3 k4
  simp only at *
  cases hm'
  · have eb : Acl.bits ⟨o, g, t, us, gs, false, m⟩ = o % 8 * 64 + g % 8 * 8 + t % 8 := rfl
    rw [eb, chmod_f]
    have a1 : (o % 8 * 64 + g % 8 * 8 + t % 8) / 64 % 8 = o := by omega
    have a2 : (o % 8 * 64 + g % 8 * 8 + t % 8) / 8 % 8 = g := by omega
    have a3 : (o % 8 * 64 + g % 8 * 8 + t % 8) % 8 = t := by omega
    rw [a1, a2, a3]
  · have eb : Acl.bits ⟨o, g, t, us, gs, true, m⟩ = o % 8 * 64 + m % 8 * 8 + t % 8 := rfl
    rw [eb, chmod_t]
    have a1 : (o % 8 * 64 + m % 8 * 8 + t % 8) / 64 % 8 = o := by omega
    have a2 : (o % 8 * 64 + m % 8 * 8 + t % 8) / 8 % 8 = m := by omega
    have a3 : (o % 8 * 64 + m % 8 * 8 + t % 8) % 8 = t := by omega
    rw [a1, a2, a3]
theorem bits_512 {a : Acl} (ok : a.Ok) : u16 a.bits := by
  have h1 := ok.o; have h2 := ok.g; have h3 := ok.t; have h4 := ok.m
  unfold u8 at h1 h2 h3 h4
  unfold Acl.bits Acl.cls u16
  split <;> omega
/-! The bits. -/
theorem lose_bits {x : Int} (h : 0 ≤ x ∧ x ≤ 7) : (0 ≤ bits .andNot .u8 x 2 ∧ bits .andNot .u8 x 2 ≤ 7) ∧ bits .and .u8 (bits .andNot .u8 x 2) 5 = bits .and .u8 x 5 ∧ bits .andNot .u8 (bits .andNot .u8 x 2) x = 0 ∧ bits .andNot .u8 x x = 0 := by
  obtain ⟨n, rfl⟩ := fin8 h
  revert n
  decide +kernel
theorem gone_bits {x : Int} (h : 0 ≤ x ∧ x ≤ 7) : (bits .andNot .u8 (bits .andNot .u8 x 4) x = 0 ∧ bits .andNot .u8 (bits .andNot .u8 (bits .andNot .u8 x 4) 2) x = 0) ∧ bits .and .u8 (bits .andNot .u8 x 4) 1 = bits .and .u8 x 1 ∧ bits .and .u8 (bits .andNot .u8 (bits .andNot .u8 x 4) 2) 1 = bits .and .u8 x 1 := by
  obtain ⟨n, rfl⟩ := fin8 h
  revert n
  decide +kernel
theorem lose_facts {c : Cred} {a : Attr} {k : Int} (hb : 0 ≤ a.bits ∧ a.bits ≤ 7) (hm : a.may = true) :
    (loseO c a k).may = true ∧ u8 (loseO c a k).bits ∧ bits .and .u8 (loseO c a k).bits 5 = bits .and .u8 a.bits 5 ∧ bits .andNot .u8 (loseO c a k).bits a.bits = 0 := by
  obtain ⟨h1, h2, h3, h4⟩ := lose_bits hb
  unfold loseO
  cases losesO c a k with
  | true => exact ⟨Attr.wb_may hm h1.2, ⟨h1.1, by show bits .andNot .u8 a.bits 2 ≤ 255; omega⟩, h2, h3⟩
  | false => exact ⟨Attr.wb_may hm hb.2, ⟨hb.1, by show a.bits ≤ 255; omega⟩, rfl, h4⟩
theorem moded_may {a : Attr} {m : Int} (hm : a.may = true) (hu : u16 m) : (a.moded m).may = true := by
  rw [Attr.may_eq] at hm ⊢
  simp only [Bool.and_eq_true, decide_eq_true_eq] at hm ⊢
  unfold u16 at hu
  exact ⟨⟨⟨⟨by show m / 512 % 8 ≤ 7; omega, chmod_may hm.1.1.1.2 hu⟩, hm.1.1.2⟩, hm.1.2⟩, hm.2⟩
theorem acl1_may {a : Attr} {l : Acl} (hm : a.may = true) (hl : l.may = true) : (a.acl1 l).may = true := by
  rw [Attr.may_eq] at hm ⊢
  simp only [Bool.and_eq_true, decide_eq_true_eq] at hm ⊢
  exact ⟨⟨⟨⟨hm.1.1.1.1, hl⟩, hm.1.1.2⟩, hm.1.2⟩, hm.2⟩
theorem acl2_may {a : Attr} {l : Acl} (hm : a.may = true) (hl : l.may = true) : (a.acl2 l).may = true := by
  rw [Attr.may_eq] at hm ⊢
  simp only [Bool.and_eq_true, decide_eq_true_eq] at hm ⊢
  refine ⟨⟨⟨⟨hm.1.1.1.1, hm.1.1.1.2⟩, ?_⟩, hm.1.2⟩, hm.2⟩
  unfold Attr.dfB Attr.acl2
  dsimp only
  rw [hl]; rfl
theorem acl3_may {a : Attr} (hm : a.may = true) : a.acl3.may = true := by
  rw [Attr.may_eq] at hm ⊢
  simp only [Bool.and_eq_true, decide_eq_true_eq] at hm ⊢
  exact ⟨⟨⟨⟨hm.1.1.1.1, hm.1.1.1.2⟩, by show (acl0.may && (false || decide (acl0 = acl0))) = true; decide⟩, hm.1.2⟩, hm.2⟩
/-- What another mode leaves, turned back. -/
theorem chmod_whole {c : Cred} {a : Attr} {k m : Int} (hok : a.Ok) (hm : a.may = true) : (({ (loseO c (a.moded m) k).wb a.bits with acc := ((loseO c (a.moded m) k).acc).chmod a.acc.bits } : Attr)) = a := by
  have e : (loseO c (a.moded m) k).acc = a.acc.chmod m := rfl
  rw [e, chmod_chmod, chmod_back hok.acc (Attr.may_acc hm)]
  rfl
theorem given_facts {a : Attr} {k u g : Int} (hok : a.Ok) (hm : a.may = true) :
    let y := if k = 1 then goesO (a.given u g) else a.given u g
    y.may = true ∧ u8 y.bits ∧ bits .andNot .u8 y.bits a.bits = 0 ∧ bits .and .u8 y.bits 1 = bits .and .u8 a.bits 1 ∧ y.uid = (if 0 ≤ u then u else a.uid) ∧ y.gid = (if 0 ≤ g then g else a.gid) ∧ ({ y with uid := a.uid, gid := a.gid, bits := a.bits } : Attr) = a := by
  have hb : 0 ≤ a.bits ∧ a.bits ≤ 7 := ⟨hok.bits.1, Attr.bits7 hm⟩
  obtain ⟨⟨w1, w2⟩, -, -⟩ := goes_bits hb
  obtain ⟨⟨x1, x2⟩, x3, x4⟩ := gone_bits hb
  obtain ⟨-, -, -, h4⟩ := lose_bits hb
  have gm : (a.given u g).may = true := hm
  dsimp only
  by_cases hk : k = 1
  · rw [if_pos hk]
    unfold goesO
    by_cases hc : bits .and .u8 ((a.given u g).acc.cls % 8) 1 = 0
    · rw [if_pos hc]
      exact ⟨Attr.wb_may gm w1.2, ⟨w1.1, by show bits .andNot .u8 a.bits 4 ≤ 255; omega⟩, x1, x3, rfl, rfl, rfl⟩
    · rw [if_neg hc]
      exact ⟨Attr.wb_may gm w2.2, ⟨w2.1, by show bits .andNot .u8 (bits .andNot .u8 a.bits 4) 2 ≤ 255; omega⟩, x2, x4, rfl, rfl, rfl⟩
  · rw [if_neg hk]
    exact ⟨gm, ⟨hb.1, by show a.bits ≤ 255; omega⟩, h4, rfl, rfl, rfl, rfl⟩
theorem set_whole1 {c : Cred} {a : Attr} {l : Acl} {k : Int} : ({ (loseO c (a.acl1 l) k).wb a.bits with acc := a.acc } : Attr) = a := rfl
theorem set_whole2 {a : Attr} {l : Acl} : ({ a.acl2 l with hd := a.hd, df := a.df } : Attr) = a := rfl
theorem set_whole3 {a : Attr} : ({ a.acl3 with hd := a.hd, df := a.df } : Attr) = a := rfl
end Go.Proofs.Ytligadbnoiibnaa
