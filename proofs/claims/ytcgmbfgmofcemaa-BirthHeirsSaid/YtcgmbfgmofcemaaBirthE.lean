/- What is begun: the chapter's examples. -/
import Derived.Test.YtcgmbfgmofcemaaBirthD
namespace Go.Proofs.Ytcgmbfgmofcemaa
set_option maxRecDepth 4000
open Go Go.Par PH
/-- A value of attributes, its slices told. -/
def attrS (a : Attr) (a1 a2 a3 a4 a5 : Option Addr) (c1 c2 c3 c4 c5 : Nat) : Value :=
  attrV a (.slice a1 a.acc.us.length c1) (.slice a2 a.acc.gs.length c2) (.slice a3 a.df.us.length c3) (.slice a4 a.df.gs.length c4) (.slice a5 a.xs.length c5)
theorem AttrV.shape {h : PH} {v : Value} {a : Attr} (hv : AttrV h v a) : ∃ a1 a2 a3 a4 a5 c1 c2 c3 c4 c5, v = attrS a a1 a2 a3 a4 a5 c1 c2 c3 c4 c5 := by
  obtain ⟨u, g, u2, g2, x, rfl, h1, h2, h3, h4, h5⟩ := hv
  obtain ⟨_, _, rfl⟩ := h1.shape
  obtain ⟨_, _, rfl⟩ := h2.shape
  obtain ⟨_, _, rfl⟩ := h3.shape
  obtain ⟨_, _, rfl⟩ := h4.shape
  obtain ⟨_, _, rfl⟩ := h5.shape
  exact ⟨_, _, _, _, _, _, _, _, _, _, rfl⟩
theorem NewA.is {c : Cred} {umask : Int} {p : Attr} {kind mode : Int} {h : PH} {r : Value} {a : Attr} (H : NewA c umask p kind mode r h) (hb : bornB c p kind = true) (ha : born c umask p kind mode = a) :
    ∃ a1 a2 a3 a4 a5 c1 c2 c3 c4 c5, r = .tuple #[attrS a a1 a2 a3 a4 a5 c1 c2 c3 c4 c5, .int .i64 0] ∧ AttrV h (attrS a a1 a2 a3 a4 a5 c1 c2 c3 c4 c5) a := by
  unfold NewA at H
  rw [hb, ha] at H
  obtain ⟨w, rfl, hw⟩ := H
  have hw : AttrV h w a := hw
  obtain ⟨a1, a2, a3, a4, a5, c1, c2, c3, c4, c5, rfl⟩ := hw.shape
  exact ⟨_, _, _, _, _, _, _, _, _, _, rfl, hw⟩
theorem NewA.no {c : Cred} {umask : Int} {p : Attr} {kind mode : Int} {h : PH} {r : Value} (H : NewA c umask p kind mode r h) (hb : bornB c p kind = false) :
    ∃ a1 a2 a3 a4 a5 c1 c2 c3 c4 c5, r = .tuple #[attrS attr0 a1 a2 a3 a4 a5 c1 c2 c3 c4 c5, .int .i64 622] ∧ AttrV h (attrS attr0 a1 a2 a3 a4 a5 c1 c2 c3 c4 c5) attr0 := by
  unfold NewA at H
  rw [hb] at H
  obtain ⟨w, rfl, hw⟩ := H
  have hw : AttrV h w attr0 := hw
  obtain ⟨a1, a2, a3, a4, a5, c1, c2, c3, c4, c5, rfl⟩ := hw.shape
  exact ⟨_, _, _, _, _, _, _, _, _, _, rfl, hw⟩
def exC : Cred := ⟨5, 1, [], false⟩
def exD : Acl := ⟨7, 7, 5, [(8, 6)], [], true, 7⟩
def exP : Attr := ⟨0, 0, 9, ⟨7, 5, 5, [], [], false, 0⟩, false, acl0, []⟩
def exP2 : Attr := ⟨2, 0, 9, ⟨7, 5, 5, [], [], false, 0⟩, false, acl0, []⟩
def exP3 : Attr := ⟨2, 0, 9, ⟨7, 5, 5, [], [], false, 0⟩, true, exD, []⟩
theorem exP_ok : exP.Ok := ⟨⟨by decide, by decide⟩, ⟨by decide, by decide⟩, ⟨by decide, by decide⟩, ⟨⟨by decide, by decide⟩, ⟨by decide, by decide⟩, ⟨by decide, by decide⟩, ⟨by decide, by decide⟩, fun x hx => (by cases hx), fun x hx => (by cases hx)⟩, ⟨⟨by decide, by decide⟩, ⟨by decide, by decide⟩, ⟨by decide, by decide⟩, ⟨by decide, by decide⟩, fun x hx => (by cases hx), fun x hx => (by cases hx)⟩⟩
theorem exP2_ok : exP2.Ok := ⟨⟨by decide, by decide⟩, exP_ok.uid, exP_ok.gid, exP_ok.acc, exP_ok.df⟩
theorem exP3_ok : exP3.Ok := ⟨exP2_ok.bits, exP_ok.uid, exP_ok.gid, exP_ok.acc, ⟨⟨by decide, by decide⟩, ⟨by decide, by decide⟩, ⟨by decide, by decide⟩, ⟨by decide, by decide⟩, fun x hx => by
  simp only [exP3, exD, List.mem_singleton] at hx; subst hx; exact ⟨⟨by decide, by decide⟩, ⟨by decide, by decide⟩⟩, fun x hx => (by cases hx)⟩⟩
theorem exP_small : exP.small := ⟨⟨by decide, by decide⟩, ⟨by decide, by decide⟩, by decide, fun x hx => (by cases hx)⟩
theorem exP2_small : exP2.small := ⟨⟨by decide, by decide⟩, ⟨by decide, by decide⟩, by decide, fun x hx => (by cases hx)⟩
theorem exP3_small : exP3.small := ⟨⟨by decide, by decide⟩, ⟨by decide, by decide⟩, by decide, fun x hx => (by cases hx)⟩
def exA : Attr := ⟨0, 5, 1, ⟨6, 4, 4, [], [], false, 0⟩, false, acl0, []⟩
def exB : Attr := ⟨0, 5, 1, ⟨7, 7, 7, [], [], false, 0⟩, false, acl0, []⟩
def exE : Attr := ⟨0, 5, 9, ⟨7, 5, 5, [], [], false, 0⟩, false, acl0, []⟩
def exX : Attr := ⟨2, 5, 9, ⟨6, 7, 0, [(8, 6)], [], true, 4⟩, true, exD, []⟩
theorem ex1 : bornB exC exP 1 = true ∧ born exC 18 exP 1 438 = exA := ⟨by kernel_rfl, by kernel_rfl⟩
theorem ex2 : bornB exC exP 3 = true ∧ born exC 18 exP 3 0 = exB := ⟨by kernel_rfl, by kernel_rfl⟩
theorem ex3 : bornB exC exP2 1 = true ∧ born exC 0 exP2 1 1517 = exE := ⟨by kernel_rfl, by kernel_rfl⟩
theorem ex4 : bornB exC exP3 2 = true ∧ born exC 63 exP3 2 416 = exX := ⟨by kernel_rfl, by kernel_rfl⟩
theorem ex5 : bornB exC exP3 4 = false := by kernel_rfl
theorem exA_ok : exA.Ok := ⟨⟨by decide, by decide⟩, ⟨by decide, by decide⟩, ⟨by decide, by decide⟩, ⟨⟨by decide, by decide⟩, ⟨by decide, by decide⟩, ⟨by decide, by decide⟩, ⟨by decide, by decide⟩, fun x hx => (by cases hx), fun x hx => (by cases hx)⟩, exP_ok.df⟩
theorem exB_ok : exB.Ok := ⟨⟨by decide, by decide⟩, ⟨by decide, by decide⟩, ⟨by decide, by decide⟩, ⟨⟨by decide, by decide⟩, ⟨by decide, by decide⟩, ⟨by decide, by decide⟩, ⟨by decide, by decide⟩, fun x hx => (by cases hx), fun x hx => (by cases hx)⟩, exP_ok.df⟩
theorem exE_ok : exE.Ok := ⟨⟨by decide, by decide⟩, ⟨by decide, by decide⟩, ⟨by decide, by decide⟩, exP_ok.acc, exP_ok.df⟩
attribute [local irreducible] W WL Does Exec Body Then inBlk RG WR row obj pblk
attribute [local irreducible] bits
set_option maxHeartbeats 2000000 in
theorem alive_fn (h : PH) : Does Try.prog 9 [] [] h (Ret fun r _ _ => r = .bool true) := by
  have hC : ∀ h, CredV h (credV exC (.slice none 0 0)) exC := fun h => ⟨_, rfl, Sl.nil⟩
  refine Does_of_W Try.func9 rfl (n := 141) rfl rfl (by simp only [argE] <;> rfl) ?_
  (repeat (first | refine W_seq ?_))
  skip
  refine W_region rfl ?_
  refine WL_is (X_assign rfl rfl) rfl rfl rfl ?_
  (repeat (first | refine WL_nil ?_ | refine Then_normal ?_ | refine W_seq ?_))
  skip
  refine W_region rfl ?_
  refine WL_is (X_build rfl rfl rfl) rfl rfl rfl ?_
  (refine WL_alloc rfl rfl rfl rfl rfl rfl ?_; intro b_)
  refine WL_store rfl rfl rfl (by exact idx0) rfl rfl rfl rfl rfl rfl rfl rfl rfl ?_
  (repeat (first | refine WL_nil ?_ | refine Then_normal ?_ | refine W_seq ?_))
  skip
  refine W_region rfl ?_
  have c0 : Does Try.prog 20 [.int .u16 493] [] h (Ret fun r R' h' => AclV h' r exP.acc ∧ R' = []) := ofK_ref (h := h) (b := 493) ⟨by decide, by decide⟩
  refine WL_call rfl rfl rfl Try.func20 rfl rfl rfl rfl c0 ?_
  rintro _ _ H1 L1 ⟨⟨U, W, rfl, s1, s2⟩, rfl⟩
  obtain ⟨_, _, rfl⟩ := s1.shape
  obtain ⟨_, _, rfl⟩ := s2.shape
  simp only [List.nil_append, aclV]
  have p1 : AttrV H1 (attrV exP _ _ (.slice none 0 0) (.slice none 0 0) (.slice none 0 0)) exP := ⟨_, _, _, _, _, rfl, s1, s2, Sl.nil, Sl.nil, Sl.nil⟩
  refine WL_is (X_build rfl rfl rfl) rfl rfl rfl ?_
  (refine WL_alloc rfl rfl rfl rfl rfl rfl ?_; intro b_)
  refine WL_store rfl rfl rfl (by exact idx0) rfl rfl rfl rfl rfl rfl rfl rfl rfl ?_
  (repeat (first | refine WL_nil ?_ | refine Then_normal ?_ | refine W_seq ?_))
  skip
  refine W_region rfl ?_
  refine WL_is (X_loadA rfl rfl (by exact idx1) rfl rfl rfl) rfl rfl rfl ?_
  refine WL_is (X_loadA rfl rfl (by exact idx0) rfl rfl rfl) rfl rfl rfl ?_
  refine WL_call rfl rfl rfl Try.func11 rfl rfl rfl rfl (new_fn H1 exC _ 18 exP _ 1 438 (hC _) p1 exP_small exP_ok (by decide) ⟨by decide, by decide⟩ ⟨by decide, by decide⟩) ?_
  rintro _ _ H2 L2 ⟨hN, rfl⟩
  obtain ⟨_, _, _, _, _, _, _, _, _, _, rfl, a1⟩ := hN.is ex1.1 ex1.2
  simp only [List.nil_append]
  refine WL_is (X_move rfl rfl) rfl rfl rfl ?_
  refine WL_is (X_extract rfl rfl rfl) rfl rfl rfl ?_
  refine WL_is (X_extract rfl rfl rfl) rfl rfl rfl ?_
  (refine WL_alloc rfl rfl rfl rfl rfl rfl ?_; intro b_)
  refine WL_store rfl rfl rfl (by exact idx0) rfl rfl rfl rfl rfl rfl rfl rfl rfl ?_
  refine WL_is (X_assign rfl rfl) rfl rfl rfl ?_
  (repeat (first | refine WL_nil ?_ | refine Then_normal ?_ | refine W_seq ?_))
  skip
  refine W_region rfl ?_
  refine WL_is (X_loadA rfl rfl (by exact idx2) rfl rfl rfl) rfl rfl rfl ?_
  refine WL_is (X_loadA rfl rfl (by exact idx1) rfl rfl rfl) rfl rfl rfl ?_
  refine WL_call rfl rfl rfl Try.func11 rfl rfl rfl rfl (new_fn H2 exC _ 18 exP _ 3 0 (hC _) (p1.mono L2) exP_small exP_ok (by decide) ⟨by decide, by decide⟩ ⟨by decide, by decide⟩) ?_
  rintro _ _ H3 L3 ⟨hN, rfl⟩
  obtain ⟨_, _, _, _, _, _, _, _, _, _, rfl, a2⟩ := hN.is ex2.1 ex2.2
  simp only [List.nil_append]
  refine WL_is (X_move rfl rfl) rfl rfl rfl ?_
  refine WL_is (X_extract rfl rfl rfl) rfl rfl rfl ?_
  refine WL_is (X_extract rfl rfl rfl) rfl rfl rfl ?_
  (refine WL_alloc rfl rfl rfl rfl rfl rfl ?_; intro b_)
  refine WL_store rfl rfl rfl (by exact idx0) rfl rfl rfl rfl rfl rfl rfl rfl rfl ?_
  refine WL_is (X_assign rfl rfl) rfl rfl rfl ?_
  (repeat (first | refine WL_nil ?_ | refine Then_normal ?_ | refine W_seq ?_))
  skip
  refine W_region rfl ?_
  refine WL_is (X_fieldAddr rfl rfl rfl (by simp only [Nat.zero_add] <;> rfl)) rfl rfl rfl ?_
  refine WL_store rfl rfl rfl (by exact idx2) rfl rfl rfl rfl rfl rfl rfl rfl rfl ?_
  (repeat (first | refine WL_nil ?_ | refine Then_normal ?_ | refine W_seq ?_))
  skip
  refine W_region rfl ?_
  refine WL_is (X_loadA rfl rfl (by exact idx3) rfl rfl rfl) rfl rfl rfl ?_
  refine WL_is (X_loadA rfl rfl (by exact idx2) rfl rfl rfl) rfl rfl rfl ?_
  have p2 : AttrV H3 (attrV exP2 _ _ (.slice none 0 0) (.slice none 0 0) (.slice none 0 0)) exP2 := ⟨_, _, _, _, _, rfl, s1.mono (L2.trans L3), s2.mono (L2.trans L3), Sl.nil, Sl.nil, Sl.nil⟩
  refine WL_call rfl rfl rfl Try.func11 rfl rfl rfl rfl (new_fn H3 exC _ 0 exP2 _ 1 1517 (hC _) p2 exP2_small exP2_ok (by decide) ⟨by decide, by decide⟩ ⟨by decide, by decide⟩) ?_
  rintro _ _ H4 L4 ⟨hN, rfl⟩
  obtain ⟨_, _, _, _, _, _, _, _, _, _, rfl, a3⟩ := hN.is ex3.1 ex3.2
  simp only [List.nil_append]
  refine WL_is (X_move rfl rfl) rfl rfl rfl ?_
  refine WL_is (X_extract rfl rfl rfl) rfl rfl rfl ?_
  refine WL_is (X_extract rfl rfl rfl) rfl rfl rfl ?_
  (refine WL_alloc rfl rfl rfl rfl rfl rfl ?_; intro b_)
  refine WL_store rfl rfl rfl (by exact idx0) rfl rfl rfl rfl rfl rfl rfl rfl rfl ?_
  refine WL_is (X_assign rfl rfl) rfl rfl rfl ?_
  (repeat (first | refine WL_nil ?_ | refine Then_normal ?_ | refine W_seq ?_))
  skip
  refine W_region rfl ?_
  refine WL_is (X_fieldAddr rfl rfl rfl (by simp only [Nat.zero_add] <;> rfl)) rfl rfl rfl ?_
  refine WL_store rfl rfl rfl (by exact idx3) rfl rfl rfl rfl rfl rfl rfl rfl rfl ?_
  (repeat (first | refine WL_nil ?_ | refine Then_normal ?_ | refine W_seq ?_))
  skip
  refine W_region rfl ?_
  refine WL_is (X_build rfl rfl rfl) rfl rfl rfl ?_
  refine WL_buildSl (enc := encN) [(8, 6)] (lenN _) rfl rfl rfl rfl rfl rfl rfl rfl rfl rfl rfl rfl rfl rfl rfl ?_
  rintro vv H5 L5 hvv
  obtain ⟨_, _, rfl⟩ := hvv.shape
  refine WL_is (X_build rfl rfl rfl) rfl rfl rfl ?_
  refine WL_is (X_fieldAddr rfl rfl rfl (by simp only [Nat.zero_add] <;> rfl)) rfl rfl rfl ?_
  refine WL_store rfl rfl rfl (by exact idx3) rfl rfl rfl rfl rfl rfl rfl rfl rfl ?_
  (repeat (first | refine WL_nil ?_ | refine Then_normal ?_ | refine W_seq ?_))
  skip
  refine W_region rfl ?_
  refine WL_is (X_loadA rfl rfl (by exact idx4) rfl rfl rfl) rfl rfl rfl ?_
  refine WL_is (X_loadA rfl rfl (by exact idx3) rfl rfl rfl) rfl rfl rfl ?_
  have p3 : AttrV H5 (attrV exP3 _ _ _ (.slice none 0 0) (.slice none 0 0)) exP3 := ⟨_, _, _, _, _, rfl, s1.mono (((L2.trans L3).trans L4).trans L5), s2.mono (((L2.trans L3).trans L4).trans L5), hvv, Sl.nil, Sl.nil⟩
  refine WL_call rfl rfl rfl Try.func11 rfl rfl rfl rfl (new_fn H5 exC _ 63 exP3 _ 2 416 (hC _) p3 exP3_small exP3_ok (by decide) ⟨by decide, by decide⟩ ⟨by decide, by decide⟩) ?_
  rintro _ _ H6 L6 ⟨hN, rfl⟩
  obtain ⟨_, _, _, _, _, _, _, _, _, _, rfl, a4⟩ := hN.is ex4.1 ex4.2
  simp only [List.nil_append]
  refine WL_is (X_move rfl rfl) rfl rfl rfl ?_
  refine WL_is (X_extract rfl rfl rfl) rfl rfl rfl ?_
  refine WL_is (X_extract rfl rfl rfl) rfl rfl rfl ?_
  (refine WL_alloc rfl rfl rfl rfl rfl rfl ?_; intro b_)
  refine WL_store rfl rfl rfl (by exact idx0) rfl rfl rfl rfl rfl rfl rfl rfl rfl ?_
  refine WL_is (X_assign rfl rfl) rfl rfl rfl ?_
  (repeat (first | refine WL_nil ?_ | refine Then_normal ?_ | refine W_seq ?_))
  skip
  refine W_region rfl ?_
  refine WL_is (X_loadA rfl rfl (by exact idx5) rfl rfl rfl) rfl rfl rfl ?_
  refine WL_is (X_loadA rfl rfl (by exact idx4) rfl rfl rfl) rfl rfl rfl ?_
  refine WL_call rfl rfl rfl Try.func11 rfl rfl rfl rfl (new_fn H6 exC _ 0 exP3 _ 4 0 (hC _) (p3.mono L6) exP3_small exP3_ok (by decide) ⟨by decide, by decide⟩ ⟨by decide, by decide⟩) ?_
  rintro _ _ H7 L7 ⟨hN, rfl⟩
  obtain ⟨_, _, _, _, _, _, _, _, _, _, rfl, a5⟩ := hN.no ex5
  simp only [List.nil_append]
  refine WL_is (X_move rfl rfl) rfl rfl rfl ?_
  refine WL_is (X_extract rfl rfl rfl) rfl rfl rfl ?_
  refine WL_is (X_extract rfl rfl rfl) rfl rfl rfl ?_
  (refine WL_alloc rfl rfl rfl rfl rfl rfl ?_; intro b_)
  refine WL_store rfl rfl rfl (by exact idx0) rfl rfl rfl rfl rfl rfl rfl rfl rfl ?_
  refine WL_is (X_assign rfl rfl) rfl rfl rfl ?_
  (repeat (first | refine WL_nil ?_ | refine Then_normal ?_ | refine W_seq ?_))
  have m1 : Does Try.prog 18 [_] [] H7 (Ret fun r _ _ => r = .int .u16 420) := mode_ref H7 exA _ (a1.mono ((((L3.trans L4).trans L5).trans L6).trans L7)) exA_ok
  have m2 : Does Try.prog 18 [_] [] H7 (Ret fun r _ _ => r = .int .u16 511) := mode_ref H7 exB _ (a2.mono (((L4.trans L5).trans L6).trans L7)) exB_ok
  have m3 : Does Try.prog 18 [_] [] H7 (Ret fun r _ _ => r = .int .u16 493) := mode_ref H7 exE _ (a3.mono ((L5.trans L6).trans L7)) exE_ok
  skip
  refine W_region rfl ?_
  refine WL_is (X_move rfl rfl) rfl rfl rfl ?_
  refine WL_is (X_eql_t rfl rfl rfl (by omega)) rfl rfl rfl ?_
  refine WL_is (X_move rfl rfl) rfl rfl rfl ?_
  refine WL_is (X_fieldAddr rfl rfl rfl (by simp only [Nat.zero_add] <;> rfl)) rfl rfl rfl ?_
  refine WL_is (X_load1 rfl rfl (by exact idx4) rfl rfl) rfl rfl rfl ?_
  refine WL_is (X_eql rfl rfl rfl) rfl rfl rfl ?_
  refine WL_is (X_pick_t rfl rfl rfl) rfl rfl rfl ?_
  refine WL_is (X_move rfl rfl) rfl rfl rfl ?_
  refine WL_is (X_loadA rfl rfl (by exact idx4) rfl rfl rfl) rfl rfl rfl ?_
  refine WL_is (X_callv rfl rfl rfl Try.func18 rfl (by assumption)) rfl rfl rfl ?_
  refine WL_is (X_eql_t rfl rfl rfl (by omega)) rfl rfl rfl ?_
  refine WL_is (X_pick_t rfl rfl rfl) rfl rfl rfl ?_
  refine WL_is (X_move rfl rfl) rfl rfl rfl ?_
  refine WL_is (X_move rfl rfl) rfl rfl rfl ?_
  refine WL_is (X_eql_t rfl rfl rfl (by omega)) rfl rfl rfl ?_
  refine WL_is (X_pick_t rfl rfl rfl) rfl rfl rfl ?_
  refine WL_is (X_move rfl rfl) rfl rfl rfl ?_
  refine WL_is (X_loadA rfl rfl (by exact idx3) rfl rfl rfl) rfl rfl rfl ?_
  refine WL_is (X_callv rfl rfl rfl Try.func18 rfl (by assumption)) rfl rfl rfl ?_
  refine WL_is (X_eql_t rfl rfl rfl (by omega)) rfl rfl rfl ?_
  refine WL_is (X_pick_t rfl rfl rfl) rfl rfl rfl ?_
  refine WL_is (X_move rfl rfl) rfl rfl rfl ?_
  refine WL_is (X_move rfl rfl) rfl rfl rfl ?_
  refine WL_is (X_eql_t rfl rfl rfl (by omega)) rfl rfl rfl ?_
  refine WL_is (X_pick_t rfl rfl rfl) rfl rfl rfl ?_
  refine WL_is (X_move rfl rfl) rfl rfl rfl ?_
  refine WL_is (X_fieldAddr rfl rfl rfl (by simp only [Nat.zero_add] <;> rfl)) rfl rfl rfl ?_
  refine WL_is (X_load1 rfl rfl (by exact idx2) rfl rfl) rfl rfl rfl ?_
  refine WL_is (X_eql rfl rfl rfl) rfl rfl rfl ?_
  refine WL_is (X_pick_t rfl rfl rfl) rfl rfl rfl ?_
  refine WL_is (X_move rfl rfl) rfl rfl rfl ?_
  refine WL_is (X_loadA rfl rfl (by exact idx2) rfl rfl rfl) rfl rfl rfl ?_
  refine WL_is (X_callv rfl rfl rfl Try.func18 rfl (by assumption)) rfl rfl rfl ?_
  refine WL_is (X_eql_t rfl rfl rfl (by omega)) rfl rfl rfl ?_
  refine WL_is (X_pick_t rfl rfl rfl) rfl rfl rfl ?_
  refine WL_is (X_move rfl rfl) rfl rfl rfl ?_
  refine WL_is (X_move rfl rfl) rfl rfl rfl ?_
  refine WL_is (X_eql_t rfl rfl rfl (by omega)) rfl rfl rfl ?_
  refine WL_is (X_pick_t rfl rfl rfl) rfl rfl rfl ?_
  refine WL_is (X_move rfl rfl) rfl rfl rfl ?_
  refine WL_is (X_fieldAddr rfl rfl rfl (by simp only [Nat.zero_add] <;> rfl)) rfl rfl rfl ?_
  refine WL_is (X_fieldAddr rfl rfl rfl (by simp only [Nat.reduceAdd] <;> rfl)) rfl rfl rfl ?_
  refine WL_is (X_load1 rfl rfl (by exact idx1) rfl rfl) rfl rfl rfl ?_
  refine WL_is (X_eql rfl rfl rfl) rfl rfl rfl ?_
  refine WL_is (X_pick_t rfl rfl rfl) rfl rfl rfl ?_
  refine WL_is (X_move rfl rfl) rfl rfl rfl ?_
  refine WL_is (X_fieldAddr rfl rfl rfl (by simp only [Nat.zero_add] <;> rfl)) rfl rfl rfl ?_
  refine WL_is (X_fieldAddr rfl rfl rfl (by simp only [Nat.reduceAdd] <;> rfl)) rfl rfl rfl ?_
  refine WL_is (X_load1 rfl rfl (by exact idx1) rfl rfl) rfl rfl rfl ?_
  refine WL_is (X_eql rfl rfl rfl) rfl rfl rfl ?_
  refine WL_is (X_pick_t rfl rfl rfl) rfl rfl rfl ?_
  refine WL_is (X_move rfl rfl) rfl rfl rfl ?_
  refine WL_is (X_fieldAddr rfl rfl rfl (by simp only [Nat.zero_add] <;> rfl)) rfl rfl rfl ?_
  refine WL_is (X_fieldAddr rfl rfl rfl (by simp only [Nat.reduceAdd] <;> rfl)) rfl rfl rfl ?_
  refine WL_is (X_load1 rfl rfl (by exact idx1) rfl rfl) rfl rfl rfl ?_
  refine WL_is (X_eql rfl rfl rfl) rfl rfl rfl ?_
  refine WL_is (X_pick_t rfl rfl rfl) rfl rfl rfl ?_
  refine WL_is (X_move rfl rfl) rfl rfl rfl ?_
  refine WL_is (X_fieldAddr rfl rfl rfl (by simp only [Nat.zero_add] <;> rfl)) rfl rfl rfl ?_
  refine WL_is (X_fieldAddr rfl rfl rfl (by simp only [Nat.reduceAdd] <;> rfl)) rfl rfl rfl ?_
  refine WL_is (X_load1 rfl rfl (by exact idx1) rfl rfl) rfl rfl rfl ?_
  refine WL_is (X_eql rfl rfl rfl) rfl rfl rfl ?_
  refine WL_is (X_pick_t rfl rfl rfl) rfl rfl rfl ?_
  refine WL_is (X_move rfl rfl) rfl rfl rfl ?_
  refine WL_is (X_fieldAddr rfl rfl rfl (by simp only [Nat.zero_add] <;> rfl)) rfl rfl rfl ?_
  refine WL_is (X_fieldAddr rfl rfl rfl (by simp only [Nat.reduceAdd] <;> rfl)) rfl rfl rfl ?_
  refine WL_is (X_load1 rfl rfl (by exact idx1) rfl rfl) rfl rfl rfl ?_
  refine WL_is (X_len rfl rfl rfl) rfl rfl rfl ?_
  refine WL_is (X_eql rfl rfl rfl) rfl rfl rfl ?_
  refine WL_is (X_pick_t rfl rfl rfl) rfl rfl rfl ?_
  refine WL_is (X_move rfl rfl) rfl rfl rfl ?_
  refine WL_is (X_fieldAddr rfl rfl rfl (by simp only [Nat.zero_add] <;> rfl)) rfl rfl rfl ?_
  refine WL_is (X_load1 rfl rfl (by exact idx1) rfl rfl) rfl rfl rfl ?_
  refine WL_is (X_pick_t rfl rfl rfl) rfl rfl rfl ?_
  refine WL_is (X_move rfl rfl) rfl rfl rfl ?_
  refine WL_is (X_fieldAddr rfl rfl rfl (by simp only [Nat.zero_add] <;> rfl)) rfl rfl rfl ?_
  refine WL_is (X_fieldAddr rfl rfl rfl (by simp only [Nat.reduceAdd] <;> rfl)) rfl rfl rfl ?_
  refine WL_is (X_load1 rfl rfl (by exact idx1) rfl rfl) rfl rfl rfl ?_
  refine WL_is (X_eql rfl rfl rfl) rfl rfl rfl ?_
  refine WL_is (X_pick_t rfl rfl rfl) rfl rfl rfl ?_
  refine WL_is (X_move rfl rfl) rfl rfl rfl ?_
  refine WL_is (X_fieldAddr rfl rfl rfl (by simp only [Nat.zero_add] <;> rfl)) rfl rfl rfl ?_
  refine WL_is (X_load1 rfl rfl (by exact idx1) rfl rfl) rfl rfl rfl ?_
  refine WL_is (X_eql rfl rfl rfl) rfl rfl rfl ?_
  refine WL_is (X_pick_t rfl rfl rfl) rfl rfl rfl ?_
  refine WL_is (X_move rfl rfl) rfl rfl rfl ?_
  refine WL_is (X_move rfl rfl) rfl rfl rfl ?_
  refine WL_is (X_eql_t rfl rfl rfl (by omega)) rfl rfl rfl ?_
  refine WL_is (X_pick_t rfl rfl rfl) rfl rfl rfl ?_
  refine WL_is (X_assign rfl rfl) rfl rfl rfl ?_
  (repeat (first | refine WL_nil ?_ | refine Then_normal ?_ | refine W_ret ?_))
  refine Body_end rfl rfl rfl (SubR.none _) ?_
  rfl
end Go.Proofs.Ytcgmbfgmofcemaa
