/- Who may turn attributes: what is large, what is the same, and the examples. -/
import Derived.Test.YtligadbnoiibnaaOwnerH
import Derived.Test.YtligadbnoiibnaaOwnerJ
import Derived.Test.YtligadbnoiibnaaOwnerK
namespace Go.Proofs.Ytligadbnoiibnaa
set_option maxRecDepth 4000
open Go Go.Par PH
structure Tame (c : Cred) (a : Attr) : Prop where
  a : a.tame
  c : c.gs.length ≤ 60
def five : Cred := ⟨5, 1, [], false⟩
def at1 : Attr := ⟨0, 6, 0, acl0, false, acl0, []⟩
def at2 : Attr := ⟨0, 5, 2, acl0, false, acl0, []⟩
def at3 : Attr := ⟨4, 5, 2, ⟨7, 1, 1, [], [], false, 0⟩, false, acl0, []⟩
def at4 : Attr := ⟨0, 5, 0, acl0, false, acl0, []⟩
def at5 : Attr := ⟨1, 5, 0, acl0, false, acl0, []⟩
def al7 : Acl := ⟨7, 0, 0, [], [], false, 0⟩
def b2 : Attr := ⟨0, 5, 2, ⟨7, 5, 5, [], [], false, 0⟩, false, acl0, []⟩
def b3 : Attr := ⟨0, 5, 1, ⟨7, 1, 1, [], [], false, 0⟩, false, acl0, []⟩
def b4 : Attr := ⟨0, 5, 0, acl0, true, al7, []⟩
theorem x1 : chmodO five at1 1 493 = (601, attr0) := by kernel_rfl
theorem x2 : chmodO five at2 1 1517 = (0, b2) := by kernel_rfl
theorem x3 : chownO five at3 1 (-1) 1 = (0, b3) := by kernel_rfl
theorem x4 : setO five at4 2 2 al7 = (0, b4) := by kernel_rfl
theorem x5 : b2.mode = 493 := by kernel_rfl
theorem x6 : b3.mode = 457 := by kernel_rfl
theorem x7 : removesO ⟨7, 0, [], false⟩ at5 at1 = false := by kernel_rfl
theorem x8 : removesO five at5 at1 = true := by kernel_rfl
theorem x9 : (mayO five at5 && ownsO five at5) = true := by kernel_rfl
theorem x10 : (mayO ⟨6, 0, [], false⟩ at5 && ownsO ⟨6, 0, [], false⟩ at5) = false := by kernel_rfl
theorem nilC (h : PH) (u g : Int) : CredV h (.agg #[.int .u16 u, .int .u16 g, .slice none 0 0, .bool false]) ⟨u, g, [], false⟩ := ⟨_, rfl, Sl.nil⟩
abbrev nilA (b u g o gg t : Int) : Value := .agg #[.int .u8 b, .int .u16 u, .int .u16 g, .int .u8 o, .int .u8 gg, .int .u8 t, .slice none 0 0, .slice none 0 0, .bool false, .int .u8 0, .bool false, .int .u8 0, .int .u8 0, .int .u8 0, .slice none 0 0, .slice none 0 0, .bool false, .int .u8 0, .slice none 0 0]
theorem nilAV (h : PH) (b u g o gg t : Int) : AttrV h (nilA b u g o gg t) ⟨b, u, g, ⟨o, gg, t, [], [], false, 0⟩, false, acl0, []⟩ := ⟨.slice none 0 0, .slice none 0 0, .slice none 0 0, .slice none 0 0, .slice none 0 0, rfl, Sl.nil, Sl.nil, Sl.nil, Sl.nil, Sl.nil⟩
theorem nilS (b u g o gg t : Int) (hd : Bool) (d : Acl) (hds : d.us = [] ∧ d.gs = []) : Attr.small ⟨b, u, g, ⟨o, gg, t, [], [], false, 0⟩, hd, d, []⟩ := ⟨⟨by simp, by simp⟩, ⟨by rw [hds.1]; simp, by rw [hds.2]; simp⟩, by simp, fun x hx => by cases hx⟩
theorem nilK {b u g o gg t : Int} {hd : Bool} {d : Acl} (h1 : u8 b) (h2 : u16 u) (h3 : u16 g) (h4 : u8 o) (h5 : u8 gg) (h6 : u8 t) (h7 : d.Ok) : Attr.Ok ⟨b, u, g, ⟨o, gg, t, [], [], false, 0⟩, hd, d, []⟩ := ⟨h1, h2, h3, ⟨h4, h5, h6, ⟨by dsimp only; decide, by dsimp only; decide⟩, by simp, by simp⟩, h7⟩
theorem acl0_ok : acl0.Ok := ⟨⟨by decide, by decide⟩, ⟨by decide, by decide⟩, ⟨by decide, by decide⟩, ⟨by decide, by decide⟩, by simp [acl0], by simp [acl0]⟩
theorem al7_ok : al7.Ok := ⟨⟨by decide, by decide⟩, ⟨by decide, by decide⟩, ⟨by decide, by decide⟩, ⟨by decide, by decide⟩, by simp [al7], by simp [al7]⟩
theorem i8 {x : Int} (h : 0 ≤ x ∧ x ≤ 255 := by decide) : u8 x := h
theorem i16 {x : Int} (h : 0 ≤ x ∧ x ≤ 65535 := by decide) : u16 x := h
attribute [local irreducible] W WL Does Exec Body Then inBlk RG WR row obj pblk
attribute [local irreducible] bits
theorem large13_fn (h : PH) (c : Cred) (cv : Value) (a : Attr) (v : Value) (hc : CredV h cv c) (hv : AttrV h v a) : Does Try.prog 8 [cv, v] [] h (Ret fun r R' _ => (∃ b, r = .bool b ∧ (b = false → Tame c a)) ∧ R' = []) := by
  have c1 := attrLarge_ref h a v hv
  obtain ⟨x, rfl, hx⟩ := hc
  obtain ⟨u, g, u2, g2, xv, rfl, h1, h2, h3, h4, h5⟩ := hv
  obtain ⟨xa, xc, rfl⟩ := hx.shape
  unfold credV
  unfold attrV at c1 ⊢
  refine Does_of_W Try.func8 rfl (n := 13) rfl rfl (by simp only [argE, Nat.reduceAdd] <;> rfl) ?_
  (repeat (first | refine W_seq ?_))
  skip
  refine W_region rfl ?_
  (refine WL_box rfl rfl rfl rfl rfl rfl ?_; intro b_)
  (refine WL_box rfl rfl rfl rfl rfl rfl ?_; intro b_)
  refine WL_is (X_assign rfl rfl) rfl rfl rfl ?_
  (repeat (first | refine WL_nil ?_ | refine Then_normal ?_ | refine W_seq ?_))
  skip
  refine W_region rfl ?_
  refine WL_is (X_loadA rfl rfl (by exact idx0) rfl rfl rfl) rfl rfl rfl ?_
  refine WL_call rfl rfl rfl Try.func33 rfl rfl rfl rfl c1 ?_
  rintro _ _ H1 L1 ⟨⟨b, rfl, hb⟩, rfl⟩
  simp only [List.nil_append]
  cases b with
  | true =>
    refine WL_is (X_move rfl rfl) rfl rfl rfl ?_
    refine WL_off rfl rfl rfl ?_
    refine WL_off rfl rfl rfl ?_
    refine WL_off rfl rfl rfl ?_
    refine WL_off rfl rfl rfl ?_
    refine WL_is (X_pick_t rfl rfl rfl) rfl rfl rfl ?_
    refine WL_is (X_assign rfl rfl) rfl rfl rfl ?_
    (repeat (first | refine WL_nil ?_ | refine Then_normal ?_ | refine W_ret ?_))
    exact Body_end rfl rfl rfl (SubR.none _) ⟨⟨true, rfl, fun e => by cases e⟩, rfl⟩
  | false =>
    by_cases h60 : c.gs.length ≤ 60
    · refine WL_is (X_move rfl rfl) rfl rfl rfl ?_
      refine WL_is (X_fieldAddr rfl rfl rfl (by simp only [Nat.zero_add] <;> rfl)) rfl rfl rfl ?_
      refine WL_is (X_load1 rfl rfl (by exact idx1) rfl rfl) rfl rfl rfl ?_
      refine WL_is (X_len rfl rfl rfl) rfl rfl rfl ?_
      refine WL_is (X_gtr_f rfl rfl rfl (by omega)) rfl rfl rfl ?_
      refine WL_is (X_pick_f rfl rfl rfl) rfl rfl rfl ?_
      refine WL_is (X_assign rfl rfl) rfl rfl rfl ?_
      (repeat (first | refine WL_nil ?_ | refine Then_normal ?_ | refine W_ret ?_))
      exact Body_end rfl rfl rfl (SubR.none _) ⟨⟨_, rfl, fun _ => ⟨hb rfl, h60⟩⟩, rfl⟩
    · refine WL_is (X_move rfl rfl) rfl rfl rfl ?_
      refine WL_is (X_fieldAddr rfl rfl rfl (by simp only [Nat.zero_add] <;> rfl)) rfl rfl rfl ?_
      refine WL_is (X_load1 rfl rfl (by exact idx1) rfl rfl) rfl rfl rfl ?_
      refine WL_is (X_len rfl rfl rfl) rfl rfl rfl ?_
      refine WL_is (X_gtr_t rfl rfl rfl (by omega)) rfl rfl rfl ?_
      refine WL_is (X_pick_f rfl rfl rfl) rfl rfl rfl ?_
      refine WL_is (X_assign rfl rfl) rfl rfl rfl ?_
      (repeat (first | refine WL_nil ?_ | refine Then_normal ?_ | refine W_ret ?_))
      exact Body_end rfl rfl rfl (SubR.none _) ⟨⟨true, rfl, fun e => by cases e⟩, rfl⟩
theorem same13_ref (h : PH) (a b : Attr) (e f : Int) (v w : Value) (hv : AttrV h v a) (hw : AttrV h w b) (hs : a.small) (ht : b.small) : Does Try.prog 15 [v, .int .i64 e, w, .int .i64 f] [] h (Ret fun r _ _ => r = .bool (decide (a = b) && decide (e = f))) := by
  have c1 := attrSame_ref h a b v w hv hw hs ht
  obtain ⟨_, _, _, _, _, _, _, _, _, _, rfl⟩ := hv.shape
  obtain ⟨_, _, _, _, _, _, _, _, _, _, rfl⟩ := hw.shape
  unfold attrS attrV at c1 ⊢
  refine Does_of_W Try.func15 rfl (n := 17) rfl rfl (by simp only [argE, Nat.reduceAdd] <;> rfl) ?_
  (repeat (first | refine W_seq ?_))
  refine W_region rfl ?_
  (refine WL_box rfl rfl rfl rfl rfl rfl ?_; intro b_)
  (refine WL_box rfl rfl rfl rfl rfl rfl ?_; intro b_)
  refine WL_is (X_assign rfl rfl) rfl rfl rfl ?_
  (repeat (first | refine WL_nil ?_ | refine Then_normal ?_ | refine W_seq ?_))
  by_cases k1 : a = b
  · rw [decide_eq_true k1] at c1 ⊢
    skip
    refine W_region rfl ?_
    refine WL_is (X_loadA rfl rfl (by exact idx1) rfl rfl rfl) rfl rfl rfl ?_
    refine WL_is (X_loadA rfl rfl (by exact idx0) rfl rfl rfl) rfl rfl rfl ?_
    refine WL_is (X_callv rfl rfl rfl Try.func18 rfl (by assumption)) rfl rfl rfl ?_
    refine WL_is (X_move rfl rfl) rfl rfl rfl ?_
    refine WL_is (X_move rfl rfl) rfl rfl rfl ?_
    refine WL_is (X_move rfl rfl) rfl rfl rfl ?_
    refine WL_is (X_eql rfl rfl rfl) rfl rfl rfl ?_
    refine WL_is (X_pick_t rfl rfl rfl) rfl rfl rfl ?_
    refine WL_is (X_assign rfl rfl) rfl rfl rfl ?_
    (repeat (first | refine WL_nil ?_ | refine Then_normal ?_ | refine W_ret ?_))
    refine Body_end rfl rfl rfl (SubR.none _) ?_
    rfl
  · rw [decide_eq_false k1] at c1 ⊢
    skip
    refine W_region rfl ?_
    refine WL_is (X_loadA rfl rfl (by exact idx1) rfl rfl rfl) rfl rfl rfl ?_
    refine WL_is (X_loadA rfl rfl (by exact idx0) rfl rfl rfl) rfl rfl rfl ?_
    refine WL_is (X_callv rfl rfl rfl Try.func18 rfl (by assumption)) rfl rfl rfl ?_
    refine WL_is (X_move rfl rfl) rfl rfl rfl ?_
    refine WL_off rfl rfl rfl ?_
    refine WL_off rfl rfl rfl ?_
    refine WL_off rfl rfl rfl ?_
    refine WL_is (X_pick_f rfl rfl rfl) rfl rfl rfl ?_
    refine WL_is (X_assign rfl rfl) rfl rfl rfl ?_
    (repeat (first | refine WL_nil ?_ | refine Then_normal ?_ | refine W_ret ?_))
    refine Body_end rfl rfl rfl (SubR.none _) ?_
    rfl
set_option maxHeartbeats 4000000 in
theorem alive_fn (h : PH) : Does Try.prog 10 [] [] h (Ret fun r _ _ => r = .bool true) := by
  have c1 := fun h => chmod13_fn h five _ at1 _ 1 493 (nilC h 5 1) (by decide) (nilAV h 0 6 0 0 0 0) (nilS _ _ _ _ _ _ _ _ ⟨rfl, rfl⟩) (nilK i8 i16 i16 i8 i8 i8 acl0_ok) i16
  have c2 := fun h => chmod13_fn h five _ at2 _ 1 1517 (nilC h 5 1) (by decide) (nilAV h 0 5 2 0 0 0) (nilS _ _ _ _ _ _ _ _ ⟨rfl, rfl⟩) (nilK i8 i16 i16 i8 i8 i8 acl0_ok) i16
  have c3 := fun h => chown13_fn h five _ at3 _ 1 (-1) 1 (nilC h 5 1) (by decide) (nilAV h 4 5 2 7 1 1) (nilS _ _ _ _ _ _ _ _ ⟨rfl, rfl⟩) (nilK i8 i16 i16 i8 i8 i8 acl0_ok)
  have c4 := fun h => setacl_fn h five _ at4 _ 2 2 al7 (.agg #[.int .u8 7, .int .u8 0, .int .u8 0, .slice none 0 0, .slice none 0 0, .bool false, .int .u8 0]) (nilC h 5 1) (by decide) (nilAV h 0 5 0 0 0 0) (nilS _ _ _ _ _ _ _ _ ⟨rfl, rfl⟩) (nilK i8 i16 i16 i8 i8 i8 acl0_ok) ⟨_, _, rfl, Sl.nil, Sl.nil⟩ ⟨by decide, by decide⟩ al7_ok
  rw [x1] at c1
  rw [x2] at c2
  rw [x3] at c3
  rw [x4] at c4
  refine Does_of_W Try.func10 rfl (n := 102) rfl rfl (by simp only [argE] <;> rfl) ?_
  (repeat (first | refine W_seq ?_))
  skip
  refine W_region rfl ?_
  refine WL_is (X_assign rfl rfl) rfl rfl rfl ?_
  (repeat (first | refine WL_nil ?_ | refine Then_normal ?_ | refine W_seq ?_))
  skip
  refine W_region rfl ?_
  refine WL_is (X_build rfl rfl rfl) rfl rfl rfl ?_
  (refine WL_alloc rfl rfl rfl rfl rfl rfl ?_; intro b_)
  refine WL_store rfl rfl rfl (by exact idx0) rfl rfl rfl rfl rfl rfl rfl rfl rfl ?_
  (repeat (first | refine WL_nil ?_ | refine Then_normal ?_ | refine W_seq ?_))
  skip
  refine W_region rfl ?_
  refine WL_is (X_loadA rfl rfl (by exact idx0) rfl rfl rfl) rfl rfl rfl ?_
  refine WL_is (X_build rfl rfl rfl) rfl rfl rfl ?_
  refine WL_call rfl rfl rfl Try.func21 rfl rfl rfl rfl (c1 h) ?_
  rintro _ _ H1 L1 ⟨⟨v1, rfl, hv1⟩, rfl⟩
  obtain ⟨_, _, _, _, _, _, _, _, _, _, rfl⟩ := hv1.shape
  simp only [List.nil_append]
  refine WL_is (X_move rfl rfl) rfl rfl rfl ?_
  refine WL_is (X_extract rfl rfl rfl) rfl rfl rfl ?_
  refine WL_is (X_extract rfl rfl rfl) rfl rfl rfl ?_
  (refine WL_alloc rfl rfl rfl rfl rfl rfl ?_; intro b_)
  refine WL_store rfl rfl rfl (by exact idx0) rfl rfl rfl rfl rfl rfl rfl rfl rfl ?_
  refine WL_is (X_assign rfl rfl) rfl rfl rfl ?_
  (repeat (first | refine WL_nil ?_ | refine Then_normal ?_ | refine W_seq ?_))
  skip
  refine W_region rfl ?_
  refine WL_is (X_loadA rfl rfl (by exact idx1) rfl rfl rfl) rfl rfl rfl ?_
  refine WL_is (X_build rfl rfl rfl) rfl rfl rfl ?_
  refine WL_call rfl rfl rfl Try.func21 rfl rfl rfl rfl (c2 H1) ?_
  rintro _ _ H2 L2 ⟨⟨v2, rfl, hv2⟩, rfl⟩
  obtain ⟨_, _, _, _, _, _, _, _, _, _, rfl⟩ := hv2.shape
  simp only [List.nil_append]
  refine WL_is (X_move rfl rfl) rfl rfl rfl ?_
  refine WL_is (X_extract rfl rfl rfl) rfl rfl rfl ?_
  refine WL_is (X_extract rfl rfl rfl) rfl rfl rfl ?_
  (refine WL_alloc rfl rfl rfl rfl rfl rfl ?_; intro b_)
  refine WL_store rfl rfl rfl (by exact idx0) rfl rfl rfl rfl rfl rfl rfl rfl rfl ?_
  refine WL_is (X_assign rfl rfl) rfl rfl rfl ?_
  (repeat (first | refine WL_nil ?_ | refine Then_normal ?_ | refine W_seq ?_))
  skip
  refine W_region rfl ?_
  refine WL_is (X_loadA rfl rfl (by exact idx2) rfl rfl rfl) rfl rfl rfl ?_
  refine WL_is (X_build rfl rfl rfl) rfl rfl rfl ?_
  refine WL_is (X_build rfl rfl rfl) rfl rfl rfl ?_
  refine WL_call rfl rfl rfl Try.func22 rfl rfl rfl rfl (c3 H2) ?_
  rintro _ _ H3 L3 ⟨⟨v3, rfl, hv3⟩, rfl⟩
  obtain ⟨_, _, _, _, _, _, _, _, _, _, rfl⟩ := hv3.shape
  simp only [List.nil_append]
  refine WL_is (X_move rfl rfl) rfl rfl rfl ?_
  refine WL_is (X_extract rfl rfl rfl) rfl rfl rfl ?_
  refine WL_is (X_extract rfl rfl rfl) rfl rfl rfl ?_
  (refine WL_alloc rfl rfl rfl rfl rfl rfl ?_; intro b_)
  refine WL_store rfl rfl rfl (by exact idx0) rfl rfl rfl rfl rfl rfl rfl rfl rfl ?_
  refine WL_is (X_assign rfl rfl) rfl rfl rfl ?_
  (repeat (first | refine WL_nil ?_ | refine Then_normal ?_ | refine W_seq ?_))
  skip
  refine W_region rfl ?_
  refine WL_is (X_build rfl rfl rfl) rfl rfl rfl ?_
  (refine WL_alloc rfl rfl rfl rfl rfl rfl ?_; intro b_)
  refine WL_store rfl rfl rfl (by exact idx0) rfl rfl rfl rfl rfl rfl rfl rfl rfl ?_
  (repeat (first | refine WL_nil ?_ | refine Then_normal ?_ | refine W_seq ?_))
  skip
  refine W_region rfl ?_
  refine WL_is (X_loadA rfl rfl (by exact idx4) rfl rfl rfl) rfl rfl rfl ?_
  refine WL_is (X_build rfl rfl rfl) rfl rfl rfl ?_
  refine WL_is (X_build rfl rfl rfl) rfl rfl rfl ?_
  refine WL_call rfl rfl rfl Try.func13 rfl rfl rfl rfl (c4 H3) ?_
  rintro _ _ H4 L4 ⟨⟨v4, rfl, hv4⟩, rfl⟩
  obtain ⟨_, _, _, _, _, _, _, _, _, _, rfl⟩ := hv4.shape
  simp only [List.nil_append]
  have d1 := mode_ref H4 b2 _ (hv2.mono (L3.trans L4)) (nilK i8 i16 i16 i8 i8 i8 acl0_ok)
  have d2 := mode_ref H4 b3 _ (hv3.mono L4) (nilK i8 i16 i16 i8 i8 i8 acl0_ok)
  have d3 := removes_fn H4 ⟨7, 0, [], false⟩ _ at5 at1 _ _ (nilC H4 7 0) (nilAV H4 1 5 0 0 0 0) (nilAV H4 0 6 0 0 0 0) (nilS _ _ _ _ _ _ _ _ ⟨rfl, rfl⟩) (nilK i8 i16 i16 i8 i8 i8 acl0_ok) (nilS _ _ _ _ _ _ _ _ ⟨rfl, rfl⟩) (nilK i8 i16 i16 i8 i8 i8 acl0_ok)
  have d4 := removes_fn H4 five _ at5 at1 _ _ (nilC H4 5 1) (nilAV H4 1 5 0 0 0 0) (nilAV H4 0 6 0 0 0 0) (nilS _ _ _ _ _ _ _ _ ⟨rfl, rfl⟩) (nilK i8 i16 i16 i8 i8 i8 acl0_ok) (nilS _ _ _ _ _ _ _ _ ⟨rfl, rfl⟩) (nilK i8 i16 i16 i8 i8 i8 acl0_ok)
  have d5 := Owns_fn H4 five _ at5 _ (nilC H4 5 1) (nilAV H4 1 5 0 0 0 0) (nilS _ _ _ _ _ _ _ _ ⟨rfl, rfl⟩) (nilK i8 i16 i16 i8 i8 i8 acl0_ok)
  have d6 := Owns_fn H4 ⟨6, 0, [], false⟩ _ at5 _ (nilC H4 6 0) (nilAV H4 1 5 0 0 0 0) (nilS _ _ _ _ _ _ _ _ ⟨rfl, rfl⟩) (nilK i8 i16 i16 i8 i8 i8 acl0_ok)
  rw [x5] at d1
  rw [x6] at d2
  rw [x7] at d3
  rw [x8] at d4
  rw [x9] at d5
  rw [x10] at d6
  unfold attrS attrV at d1 d2
  unfold attrS attrV
  have g1 : b3.gid = 1 := rfl
  have g2 : b4.df.o = 7 := rfl
  have g3 : b4.hd = true := rfl
  rw [g3]
  refine WL_is (X_move rfl rfl) rfl rfl rfl ?_
  refine WL_is (X_extract rfl rfl rfl) rfl rfl rfl ?_
  refine WL_is (X_extract rfl rfl rfl) rfl rfl rfl ?_
  (refine WL_alloc rfl rfl rfl rfl rfl rfl ?_; intro b_)
  refine WL_store rfl rfl rfl (by exact idx0) rfl rfl rfl rfl rfl rfl rfl rfl rfl ?_
  refine WL_is (X_assign rfl rfl) rfl rfl rfl ?_
  (repeat (first | refine WL_nil ?_ | refine Then_normal ?_ | refine W_seq ?_))
  skip
  refine W_region rfl ?_
  refine WL_is (X_move rfl rfl) rfl rfl rfl ?_
  refine WL_is (X_eql_t rfl rfl rfl (by omega)) rfl rfl rfl ?_
  refine WL_is (X_move rfl rfl) rfl rfl rfl ?_
  refine WL_is (X_move rfl rfl) rfl rfl rfl ?_
  refine WL_is (X_eql_t rfl rfl rfl (by omega)) rfl rfl rfl ?_
  refine WL_is (X_pick_t rfl rfl rfl) rfl rfl rfl ?_
  refine WL_is (X_move rfl rfl) rfl rfl rfl ?_
  refine WL_is (X_loadA rfl rfl (by exact idx3) rfl rfl rfl) rfl rfl rfl ?_
  refine WL_is (X_callv rfl rfl rfl Try.func34 rfl (by assumption)) rfl rfl rfl ?_
  refine WL_is (X_eql_t rfl rfl rfl (by omega)) rfl rfl rfl ?_
  refine WL_is (X_pick_t rfl rfl rfl) rfl rfl rfl ?_
  refine WL_is (X_move rfl rfl) rfl rfl rfl ?_
  refine WL_is (X_move rfl rfl) rfl rfl rfl ?_
  refine WL_is (X_eql_t rfl rfl rfl (by omega)) rfl rfl rfl ?_
  refine WL_is (X_pick_t rfl rfl rfl) rfl rfl rfl ?_
  refine WL_is (X_move rfl rfl) rfl rfl rfl ?_
  refine WL_is (X_fieldAddr rfl rfl rfl (by simp only [Nat.zero_add] <;> rfl)) rfl rfl rfl ?_
  refine WL_is (X_load1 rfl rfl (by exact idx2) rfl rfl) rfl rfl rfl ?_
  refine WL_is (X_eql_t rfl rfl rfl (by omega)) rfl rfl rfl ?_
  refine WL_is (X_pick_t rfl rfl rfl) rfl rfl rfl ?_
  refine WL_is (X_move rfl rfl) rfl rfl rfl ?_
  refine WL_is (X_loadA rfl rfl (by exact idx2) rfl rfl rfl) rfl rfl rfl ?_
  refine WL_is (X_callv rfl rfl rfl Try.func34 rfl (by assumption)) rfl rfl rfl ?_
  refine WL_is (X_eql_t rfl rfl rfl (by omega)) rfl rfl rfl ?_
  refine WL_is (X_pick_t rfl rfl rfl) rfl rfl rfl ?_
  refine WL_is (X_move rfl rfl) rfl rfl rfl ?_
  refine WL_is (X_build rfl rfl rfl) rfl rfl rfl ?_
  refine WL_is (X_loadA rfl rfl (by exact idx1) rfl rfl rfl) rfl rfl rfl ?_
  refine WL_is (X_build rfl rfl rfl) rfl rfl rfl ?_
  refine WL_is (X_callv rfl rfl rfl Try.func16 rfl (by assumption)) rfl rfl rfl ?_
  refine WL_is (X_not rfl rfl) rfl rfl rfl ?_
  refine WL_is (X_pick_t rfl rfl rfl) rfl rfl rfl ?_
  refine WL_is (X_move rfl rfl) rfl rfl rfl ?_
  refine WL_is (X_loadA rfl rfl (by exact idx5) rfl rfl rfl) rfl rfl rfl ?_
  refine WL_is (X_loadA rfl rfl (by exact idx1) rfl rfl rfl) rfl rfl rfl ?_
  refine WL_is (X_build rfl rfl rfl) rfl rfl rfl ?_
  refine WL_is (X_callv rfl rfl rfl Try.func16 rfl (by assumption)) rfl rfl rfl ?_
  refine WL_is (X_pick_t rfl rfl rfl) rfl rfl rfl ?_
  refine WL_is (X_move rfl rfl) rfl rfl rfl ?_
  refine WL_is (X_move rfl rfl) rfl rfl rfl ?_
  refine WL_is (X_eql_t rfl rfl rfl (by omega)) rfl rfl rfl ?_
  refine WL_is (X_pick_t rfl rfl rfl) rfl rfl rfl ?_
  refine WL_is (X_move rfl rfl) rfl rfl rfl ?_
  refine WL_is (X_fieldAddr rfl rfl rfl (by simp only [Nat.zero_add] <;> rfl)) rfl rfl rfl ?_
  refine WL_is (X_load1 rfl rfl (by exact idx0) rfl rfl) rfl rfl rfl ?_
  refine WL_is (X_pick_t rfl rfl rfl) rfl rfl rfl ?_
  refine WL_is (X_move rfl rfl) rfl rfl rfl ?_
  refine WL_is (X_fieldAddr rfl rfl rfl (by simp only [Nat.zero_add] <;> rfl)) rfl rfl rfl ?_
  refine WL_is (X_fieldAddr rfl rfl rfl (by simp only [Nat.reduceAdd] <;> rfl)) rfl rfl rfl ?_
  refine WL_is (X_load1 rfl rfl (by exact idx0) rfl rfl) rfl rfl rfl ?_
  refine WL_is (X_eql_t rfl rfl rfl (by omega)) rfl rfl rfl ?_
  refine WL_is (X_pick_t rfl rfl rfl) rfl rfl rfl ?_
  refine WL_is (X_move rfl rfl) rfl rfl rfl ?_
  refine WL_is (X_loadA rfl rfl (by exact idx5) rfl rfl rfl) rfl rfl rfl ?_
  refine WL_is (X_loadA rfl rfl (by exact idx1) rfl rfl rfl) rfl rfl rfl ?_
  refine WL_is (X_callv rfl rfl rfl Try.func23 rfl (by assumption)) rfl rfl rfl ?_
  refine WL_is (X_pick_t rfl rfl rfl) rfl rfl rfl ?_
  refine WL_is (X_move rfl rfl) rfl rfl rfl ?_
  refine WL_is (X_build rfl rfl rfl) rfl rfl rfl ?_
  refine WL_is (X_loadA rfl rfl (by exact idx1) rfl rfl rfl) rfl rfl rfl ?_
  refine WL_is (X_callv rfl rfl rfl Try.func23 rfl (by assumption)) rfl rfl rfl ?_
  refine WL_is (X_not rfl rfl) rfl rfl rfl ?_
  refine WL_is (X_pick_t rfl rfl rfl) rfl rfl rfl ?_
  refine WL_is (X_assign rfl rfl) rfl rfl rfl ?_
  (repeat (first | refine WL_nil ?_ | refine Then_normal ?_ | refine W_ret ?_))
  refine Body_end rfl rfl rfl (SubR.none _) ?_
  rfl
end Go.Proofs.Ytligadbnoiibnaa
