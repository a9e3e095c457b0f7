/- Births: heirs, in plain Lean; and the arguments of their law, opened with their weights. -/
import Derived.Test.YtcgmbfgmofcemaaBirthH
import Derived.Test.YtcgmbfgmofcemaaBirthP
import Derived.Test.YtcgmbfgmofcemaaAttrO
import Derived.Test.YtcgmbfgmofcemaaOpenS
import Derived.Test.YtcgmbfgmofcemaaEngZ
namespace Go.Proofs.Ytcgmbfgmofcemaa
set_option maxRecDepth 4000
open Go Go.Par PH Go.ChangeShapes Go.WideShapes Go.ChangeAt Go.RowKit
theorem namedB_len {l : List (Int × Int)} (h : namedB l = true) : l.length ≤ 4 := by
  unfold namedB at h
  simp only [Bool.and_eq_true, decide_eq_true_eq] at h
  first | exact h.1 | exact h.2
theorem Acl.may_small {a : Acl} (h : a.may = true) : a.small := by
  obtain ⟨-, h1, h2, -⟩ := may_iff.1 h
  have := namedB_len h1
  have := namedB_len h2
  unfold Acl.small; omega
theorem may_small {a : Attr} (h : a.may = true) : a.small := by
  obtain ⟨-, h1, h2, h3, h4⟩ := may_parts.1 h
  refine ⟨Acl.may_small h1, ?_, by omega, fun x hx => ?_⟩
  · cases hd : a.hd with
    | true => rw [hd] at h3; exact Acl.may_small h3
    | false =>
      rw [hd] at h3
      have h3 : decide (a.df = acl0) = true := h3
      rw [of_decide_eq_true h3]; exact acl0_small
  · obtain ⟨i, hi, rfl⟩ := List.getElem_of_mem hx
    have := allB_iff.1 h4 i hi
    rw [goodX_at hi, Bool.and_eq_true] at this
    have h5 := this.1
    unfold valB keyB at h5
    simp only [Bool.and_eq_true, decide_eq_true_eq] at h5
    omega
/-- What an heir of a parent has of it. -/
structure Heir (p q : Attr) : Prop where
  ok : q.Ok
  may : q.may = true
  hd : q.hd = p.hd
  df : q.df = p.df
  bit : bits .and .u8 q.bits 2 = bits .and .u8 p.bits 2
  gid : bits .and .u8 p.bits 2 ≠ 0 → q.gid = p.gid
theorem Heir.self {p : Attr} (ho : p.Ok) (hm : p.may = true) : Heir p p := ⟨ho, hm, rfl, rfl, rfl, fun _ => rfl⟩
theorem bornB_is {c : Cred} {q : Attr} (hg : c.gs.length ≤ 4) (hm : q.may = true) (k : Int) (hk : 1 ≤ k ∧ k ≤ 3) : bornB c q k = true := by
  unfold bornB; rw [hm]; simp [hg, hk.1, hk.2]
theorem two_of' {b : Int} (hb : u8 b) : bits .and .u8 b 2 = 0 ∨ bits .and .u8 b 2 = 2 := by
  have key : ∀ n : Fin 256, bits .and .u8 (n.val : Int) 2 = 0 ∨ bits .and .u8 (n.val : Int) 2 = 2 := by decide +kernel
  unfold u8 at hb
  have h := key ⟨b.toNat, by omega⟩
  have e : ((b.toNat : Nat) : Int) = b := by omega
  dsimp only at h
  rwa [e] at h
theorem dir_bits (B y : Int) (h0 : 0 ≤ B) (h7 : B ≤ 7) (hy : y = 0 ∨ y = 2) : bits .and .u8 (bits .or .u8 (bits .and .u8 B 1) y) 2 = y := by
  have key : ∀ n : Fin 8, bits .and .u8 (bits .or .u8 (bits .and .u8 (n.val : Int) 1) 0) 2 = 0 ∧ bits .and .u8 (bits .or .u8 (bits .and .u8 (n.val : Int) 1) 2) 2 = 2 := by decide +kernel
  have h := key ⟨B.toNat, by omega⟩
  have e : ((B.toNat : Nat) : Int) = B := by omega
  dsimp only at h
  rw [e] at h
  rcases hy with rfl | rfl
  · exact h.1
  · exact h.2
theorem born1 {c : Cred} {um : Int} {q : Attr} {m : Int} : (born c um q 1 m).hd = false ∧ (born c um q 1 m).gid = bornG c q := ⟨rfl, rfl⟩
theorem born2 {c : Cred} {um : Int} {q : Attr} {m : Int} : born c um q 2 m = ⟨bits .or .u8 (bits .and .u8 (m / 512 % 8) 1) (bits .and .u8 q.bits 2), c.uid, bornG c q, mAcc q um m, q.hd, q.df, []⟩ := rfl
theorem mAcc_um {q : Attr} {um ot m : Int} (h : q.hd = true) : mAcc q um m = mAcc q ot m := by unfold mAcc; rw [h]; rfl
theorem Heir.bornG {p q : Attr} {c : Cred} (H : Heir p q) (h : bits .and .u8 p.bits 2 ≠ 0) : bornG c q = p.gid := by
  unfold Go.Proofs.Ytcgmbfgmofcemaa.bornG
  rw [H.bit, if_neg h]; exact H.gid h
theorem Heir.next {p q : Attr} {c : Cred} {um m : Int} (H : Heir p q) (hc : c.Ok) : Heir p (born c um q 2 m) := by
  refine ⟨born_ok hc H.ok, born_may H.ok H.may, H.hd, H.df, ?_, fun h => H.bornG h⟩
  rw [born2]
  dsimp only
  rw [dir_bits _ _ (by omega) (by omega) (two_of' H.ok.bits), H.bit]
theorem born_um {c : Cred} {um ot m : Int} {q : Attr} (h : q.hd = true) : born c um q 2 m = born c ot q 2 m := by
  rw [born2, born2, mAcc_um h]
/-! Openings. -/
theorem bytesN : Try.prog.bytesOf 53 = 4 := by kernel_rfl
theorem bytesX : Try.prog.bytesOf 63 = 32 := by kernel_rfl
theorem opnNsS : OpnS Try.prog 26 fun h cs (p : Value × List (Int × Int)) => cs = [p.1] ∧ Sl encN 2 h p.1 p.2 ∧ (∀ a ∈ p.2, u16 a.1 ∧ u8 a.2) ∧ p.2.length * Try.prog.bytesOf 53 ≤ reachBytes :=
  OpnS_slice (P := Try.prog) (sz := 2) (t := 26) (e := 53) (ok := fun _ (a : Int × Int) => u16 a.1 ∧ u8 a.2) rfl rfl (by decide) (fun ht _ => opnN ht)
theorem opnXS : OpnS Try.prog 63 fun _ cs (a : ByteArray × ByteArray) => cs = encX a ∧ a.1.size ≤ maxLen := by
  intro H enc W sp held fuel cs x h _
  obtain ⟨hl, hf⟩ := trod_fields (fs := _) rfl h
  have hl : cs.length = 2 := hl
  match cs, hl with
  | [c0, c1], _ =>
    obtain ⟨_, _, f0⟩ := hf _ (.head _)
    obtain ⟨_, _, f1⟩ := hf _ (.tail _ (.head _))
    obtain ⟨a, e0, h0⟩ := Opn_string rfl f0
    obtain ⟨b, e1, h1⟩ := Opn_string rfl f1
    have e0 : [c0] = [.string a] := e0
    have e1 : [c1] = [.string b] := e1
    cases e0; cases e1
    exact ⟨(a, b), rfl, h0⟩
theorem opnXsS : OpnS Try.prog 29 fun h cs (p : Value × List (ByteArray × ByteArray)) => cs = [p.1] ∧ Sl encX 2 h p.1 p.2 ∧ (∀ a ∈ p.2, a.1.size ≤ maxLen) ∧ p.2.length * Try.prog.bytesOf 63 ≤ reachBytes :=
  OpnS_slice (P := Try.prog) (sz := 2) (t := 29) (e := 63) (ok := fun _ (a : ByteArray × ByteArray) => a.1.size ≤ maxLen) rfl rfl (by decide) opnXS
theorem opnAclS : OpnS Try.prog 28 fun h cs (p : Value × Value × Acl) => cs = cellsOf p.2.2 p.1 p.2.1 ∧ Sl encN 2 h p.1 p.2.2.us ∧ Sl encN 2 h p.2.1 p.2.2.gs ∧ p.2.2.Ok ∧ p.2.2.wide := by
  intro H enc W sp held fuel cs x h hw
  obtain ⟨hl, hf⟩ := trod_fieldsS (fs := _) rfl h hw
  have hl : cs.length = 7 := hl
  match cs, hl with
  | [c0, c1, c2, c3, c4, c5, c6], _ =>
    obtain ⟨_, _, f0, _⟩ := hf _ (.head _)
    obtain ⟨_, _, f1, _⟩ := hf _ (.tail _ (.head _))
    obtain ⟨_, _, f2, _⟩ := hf _ (.tail _ (.tail _ (.head _)))
    obtain ⟨_, _, f3, w3⟩ := hf _ (.tail _ (.tail _ (.tail _ (.head _))))
    obtain ⟨_, _, f4, w4⟩ := hf _ (.tail _ (.tail _ (.tail _ (.tail _ (.head _)))))
    obtain ⟨_, _, f5, _⟩ := hf _ (.tail _ (.tail _ (.tail _ (.tail _ (.tail _ (.head _))))))
    obtain ⟨_, _, f6, _⟩ := hf _ (.tail _ (.tail _ (.tail _ (.tail _ (.tail _ (.tail _ (.head _)))))))
    obtain ⟨o, e0, h0⟩ := Opn_int (k := .u8) rfl f0
    obtain ⟨g, e1, h1⟩ := Opn_int (k := .u8) rfl f1
    obtain ⟨t, e2, h2⟩ := Opn_int (k := .u8) rfl f2
    obtain ⟨⟨u, us⟩, e3, hu, hu2, hu3⟩ := opnNsS f3 w3
    obtain ⟨⟨w, gs⟩, e4, hg, hg2, hg3⟩ := opnNsS f4 w4
    obtain ⟨hm, e5⟩ := Opn_bool rfl f5
    obtain ⟨m, e6, h6⟩ := Opn_int (k := .u8) rfl f6
    have e0 : [c0] = [.int .u8 o] := e0
    have e1 : [c1] = [.int .u8 g] := e1
    have e2 : [c2] = [.int .u8 t] := e2
    have e3 : [c3] = [u] := e3
    have e4 : [c4] = [w] := e4
    have e5 : [c5] = [.bool hm] := e5
    have e6 : [c6] = [.int .u8 m] := e6
    cases e0; cases e1; cases e2; cases e3; cases e4; cases e5; cases e6
    rw [bytesN] at hu3 hg3
    have hu3 : us.length * 4 ≤ 140737488351232 := hu3
    have hg3 : gs.length * 4 ≤ 140737488351232 := hg3
    exact ⟨(u, w, ⟨o, g, t, us, gs, hm, m⟩), rfl, hu, hg, ⟨h0, h1, h2, h6, hu2, hg2⟩, by constructor <;> dsimp only <;> omega⟩
theorem opnAttrS : OpnS Try.prog 31 fun h cs (p : Value × Value × Value × Value × Value × Attr) => cs = attrC p.2.2.2.2.2 p.1 p.2.1 p.2.2.1 p.2.2.2.1 p.2.2.2.2.1 ∧ Sl encN 2 h p.1 p.2.2.2.2.2.acc.us ∧ Sl encN 2 h p.2.1 p.2.2.2.2.2.acc.gs
    ∧ Sl encN 2 h p.2.2.1 p.2.2.2.2.2.df.us ∧ Sl encN 2 h p.2.2.2.1 p.2.2.2.2.2.df.gs ∧ Sl encX 2 h p.2.2.2.2.1 p.2.2.2.2.2.xs ∧ p.2.2.2.2.2.Ok ∧ p.2.2.2.2.2.wide := by
  intro H enc W sp held fuel cs x h hw
  obtain ⟨hl, hf⟩ := trod_fieldsS (fs := _) rfl h hw
  have hl : cs.length = 19 := hl
  match cs, hl with
  | [c0, c1, c2, c3, c4, c5, c6, c7, c8, c9, c10, c11, c12, c13, c14, c15, c16, c17, c18], _ =>
    obtain ⟨_, _, f0, _⟩ := hf _ (.head _)
    obtain ⟨_, _, f1, _⟩ := hf _ (.tail _ (.head _))
    obtain ⟨_, _, f2, _⟩ := hf _ (.tail _ (.tail _ (.head _)))
    obtain ⟨_, _, f3, w3⟩ := hf _ (.tail _ (.tail _ (.tail _ (.head _))))
    obtain ⟨_, _, f4, _⟩ := hf _ (.tail _ (.tail _ (.tail _ (.tail _ (.head _)))))
    obtain ⟨_, _, f5, w5⟩ := hf _ (.tail _ (.tail _ (.tail _ (.tail _ (.tail _ (.head _))))))
    obtain ⟨_, _, f6, w6⟩ := hf _ (.tail _ (.tail _ (.tail _ (.tail _ (.tail _ (.tail _ (.head _)))))))
    obtain ⟨b, e0, h0⟩ := Opn_int (k := .u8) rfl f0
    obtain ⟨ui, e1, h1⟩ := Opn_int (k := .u16) rfl f1
    obtain ⟨gi, e2, h2⟩ := Opn_int (k := .u16) rfl f2
    obtain ⟨⟨u, g, ac⟩, e3, hu, hg, hac, wac⟩ := opnAclS f3 w3
    obtain ⟨hd, e4⟩ := Opn_bool rfl f4
    obtain ⟨⟨u2, g2, df⟩, e5, hu2, hg2, hdf, wdf⟩ := opnAclS f5 w5
    obtain ⟨⟨xv, xs⟩, e6, hx, hks, hxl⟩ := opnXsS f6 w6
    have e0 : [c0] = [.int .u8 b] := e0
    have e1 : [c1] = [.int .u16 ui] := e1
    have e2 : [c2] = [.int .u16 gi] := e2
    have e3 : [c3, c4, c5, c6, c7, c8, c9] = [.int .u8 ac.o, .int .u8 ac.g, .int .u8 ac.t, u, g, .bool ac.hm, .int .u8 ac.m] := e3
    have e4 : [c10] = [.bool hd] := e4
    have e5 : [c11, c12, c13, c14, c15, c16, c17] = [.int .u8 df.o, .int .u8 df.g, .int .u8 df.t, u2, g2, .bool df.hm, .int .u8 df.m] := e5
    have e6 : [c18] = [xv] := e6
    cases e0; cases e1; cases e2; cases e3; cases e4; cases e5; cases e6
    rw [bytesX] at hxl
    have hxl : xs.length * 32 ≤ 140737488351232 := hxl
    exact ⟨(u, g, u2, g2, xv, ⟨b, ui, gi, ac, hd, df, xs⟩), rfl, hu, hg, hu2, hg2, hx, ⟨h0, h1, h2, hac, hdf⟩, ⟨wac, wdf, by dsimp only; omega, hks⟩⟩
theorem open_attrS {H : Type} {enc : TypeId × Value → H} {W : World} {r : Reach} {base : Nat} {sp : Nat → Bool} {held : Bool} {v : Value} {d : DataW H} {ps : List MemPlace} (hval : Value.okWide Try.prog W r base 31 v)
    (hd : DataW.Trod enc Try.prog W 0 sp held 31 v d ps) (hw : ∀ k ∈ DataW.weights Try.prog 31 d, k ≤ reachBytes) : ∃ a, AttrV (hp W) v a ∧ a.Ok ∧ a.wide := by
  obtain ⟨fuel, hd⟩ := hd
  obtain ⟨⟨u, g, u2, g2, x, a⟩, e, hu, hg, hu2, hg2, hx, hok⟩ := opnAttrS hd hw
  obtain ⟨cs, rfl, _⟩ : ∃ cs, v = .agg cs ∧ _ := hval
  refine ⟨a, ⟨u, g, u2, g2, x, ?_, hu, hg, hu2, hg2, hx⟩, hok⟩
  have e : cs.toList = attrC a u g u2 g2 x := e
  have : cs = (attrC a u g u2 g2 x).toArray := by rw [← e]
  rw [this]; rfl
/-- A process of a list: the value of its groups, and what it is. -/
abbrev Crx := Value × Cred
def encCr (x : Crx) : List Value := credC x.2 x.1
structure CrOk (h : PH) (x : Crx) : Prop where
  sl : Sl encU16 1 h x.1 x.2.gs
  ok : x.2.Ok
theorem CrOk.mono {h h' : PH} {x : Crx} (hl : le h h') (k : CrOk h x) : CrOk h' x := ⟨k.sl.mono hl, k.ok⟩
theorem opnCr : OpnS Try.prog 25 fun h cs (a : Crx) => cs = encCr a ∧ CrOk h a := by
  intro H enc W sp held fuel cs x h _
  obtain ⟨⟨u, c⟩, e, h1, h2⟩ := opnCred h
  exact ⟨(u, c), e, ⟨h1, h2⟩⟩
theorem open_creds {H : Type} {enc : TypeId × Value → H} {W : World} {r : Reach} {base : Nat} {sp : Nat → Bool} {held : Bool} {v : Value} {d : DataW H} {ps : List MemPlace} (hval : Value.okWide Try.prog W r base 43 v)
    (hd : DataW.Trod enc Try.prog W 0 sp held 43 v d ps) (hw : ∀ k ∈ DataW.weights Try.prog 43 d, k ≤ reachBytes) : ∃ l, Sl encCr 4 (hp W) v l ∧ ∀ x ∈ l, CrOk (hp W) x := by
  obtain ⟨fuel, hd⟩ := hd
  obtain ⟨⟨u, l⟩, e, hs, hok, _⟩ := OpnS_slice (P := Try.prog) (sz := 4) (t := 43) (e := 25) rfl rfl (by decide) (ok := fun h (a : Crx) => CrOk h a) opnCr hd hw
  obtain ⟨a, m, cap, rfl⟩ := okWide_slice (e := 25) rfl hval
  have e : [Value.slice a m cap] = [u] := e
  cases e
  exact ⟨l, hs, hok⟩
theorem open_us {H : Type} {enc : TypeId × Value → H} {W : World} {r : Reach} {base : Nat} {sp : Nat → Bool} {held : Bool} {v : Value} {d : DataW H} {ps : List MemPlace} (hval : Value.okWide Try.prog W r base 23 v)
    (hd : DataW.Trod enc Try.prog W 0 sp held 23 v d ps) : ∃ l, Sl encU16 1 (hp W) v l ∧ ∀ x ∈ l, u16 x := by
  obtain ⟨fuel, hd⟩ := hd
  obtain ⟨⟨u, l⟩, e, hs, hok⟩ := opnUs hd
  obtain ⟨a, m, cap, rfl⟩ := okWide_slice (e := 22) rfl hval
  have e : [Value.slice a m cap] = [u] := e
  cases e
  exact ⟨l, hs, hok⟩
end Go.Proofs.Ytcgmbfgmofcemaa
