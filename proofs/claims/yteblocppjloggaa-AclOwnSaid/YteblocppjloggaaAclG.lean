/- Access lists: what spoils one; the answers that are fixed. -/
import Derived.Test.YteblocppjloggaaAclF
namespace Go.Proofs.Yteblocppjloggaa
open Go Go.Par PH
attribute [local irreducible] W WL Does Exec Body Then inBlk RG WR row obj pblk
instance decN : Dec encN 2 where
  len _ := rfl
  dec c := match c with
    | [.int .u16 a, .int .u8 b] => some (a, b)
    | _ => none
  ok c x h := by
    revert h
    split
    · intro h; cases h; rfl
    · intro h; cases h

set_option maxHeartbeats 1000000 in
theorem spoil_fn (h : PH) (a : Acl) (v : Value) (R : List SL) (ho : owns v R a) (hs : a.small) : Does Try.prog 22 [v] R h (Ret fun _ _ _ => True) := by
  obtain ⟨a1, c1, a2, c2, rfl, rfl⟩ := ho
  obtain ⟨o, gg, t, us, gs, hm, m⟩ := a
  obtain ⟨hs1, hs2⟩ := hs
  simp only [aclV] at *
  refine Does_of_W Try.func22 rfl (n := 39) rfl rfl (by simp only [argE] <;> rfl) ?_
  (repeat (first | refine W_seq ?_))
  skip
  refine W_region rfl ?_
  (refine WL_box rfl rfl rfl rfl rfl rfl ?_; intro b_)
  (repeat (first | refine WL_nil ?_ | refine Then_normal ?_ | refine W_seq ?_))
  skip
  refine W_region rfl ?_
  refine WL_is (X_assign rfl rfl) rfl rfl rfl ?_
  (repeat (first | refine WL_nil ?_ | refine Then_normal ?_ | refine W_block ?_))
  refine W_loop (X := Nat × List (Int × Int)) (L := fun k => ⟨[(2, .int .i64 (k.1 : Int)), (1, .pointer (some ⟨b_, 0, none⟩))], [], [blk b_ [.int .u8 o, .int .u8 gg, .int .u8 t, .slice a1 us.length c1, .slice a2 gs.length c2, .bool hm, .int .u8 m] 24,
    rowL encN (.slice a1 us.length c1) 40 2 k.2, rowL encN (.slice a2 gs.length c2) 40 2 gs], h⟩) (p := fun k => k.2.length = us.length) (μ := fun k => us.length - k.1) (0, us) ⟨(by repeat (first | exact SubE_nil | refine SubE_cons rfl ?_)), rfl, SubR.refl _, rfl⟩ rfl ?_
  rintro ⟨k, l⟩ hk
  simp only at hk
  by_cases hlt : k < us.length
  · refine W_updE (UpdE.shapePos 1 rfl (by omega)) ?_
    rintro _ _ - ⟨rfl, rfl, b1, rfl⟩
    (repeat (first | refine W_seq ?_))
    refine W_region rfl ?_
    refine WL_is (X_move rfl rfl) rfl rfl rfl ?_
    refine WL_is (X_fieldAddr rfl rfl rfl (by simp only [Nat.zero_add] <;> rfl)) rfl rfl rfl ?_
    refine WL_is (X_load1 rfl rfl (by exact idx0) rfl rfl) rfl rfl rfl ?_
    refine WL_is (X_len rfl rfl rfl) rfl rfl rfl ?_
    refine WL_is (X_lss_t rfl rfl rfl (by omega)) rfl rfl rfl ?_
    (repeat (first | refine WL_nil ?_ | refine Then_normal ?_ | refine W_seq ?_ | refine W_skip ?_ | refine W_block ?_ | refine W_true rfl ?_))
    skip
    refine W_region rfl ?_
    refine WL_is (X_fieldAddr rfl rfl rfl (by simp only [Nat.zero_add] <;> rfl)) rfl rfl rfl ?_
    refine WL_is (X_load1 rfl rfl (by exact idx0) rfl rfl) rfl rfl rfl ?_
    refine WL_is (X_move rfl rfl) rfl rfl rfl ?_
    refine WL_is (X_index_row rfl rfl (by exact idx1) rfl rfl rfl (by omega)) rfl rfl rfl ?_
    refine WL_is (X_fieldAddr_spot rfl rfl rfl (by simp only [Nat.zero_add] <;> rfl)) rfl rfl rfl ?_
    refine WL_is (X_load_spot rfl rfl (by exact idx1) (by (simp only; first | done | omega)) rfl (by (simp only; omega)) rfl) rfl rfl rfl ?_
    refine WL_is (X_add rfl rfl rfl) rfl rfl rfl ?_
    refine WL_is (X_index_row rfl rfl (by exact idx1) rfl rfl rfl (by omega)) rfl rfl rfl ?_
    refine WL_is (X_fieldAddr_spot rfl rfl rfl (by simp only [Nat.zero_add] <;> rfl)) rfl rfl rfl ?_
    refine WL_store_spot rfl rfl rfl (by exact idx1) (by (simp only; first | done | omega)) rfl rfl rfl rfl rfl (by (simp only; omega)) rfl rfl rfl rfl ?_
    (repeat (first | refine WL_nil ?_ | refine Then_normal ?_ | refine inBlk_normal ?_))
    skip
    refine W_region rfl ?_
    refine WL_is (X_move rfl rfl) rfl rfl rfl ?_
    refine WL_is (X_addW rfl rfl rfl (by exact wrap_i64_in (by omega) (by omega))) rfl rfl rfl ?_
    refine WL_is (X_assign rfl rfl) rfl rfl rfl ?_
    (repeat (first | refine WL_nil ?_ | refine Then_normal ?_))
    refine ⟨(k + 1, _), ⟨(by repeat (first | exact SubE_nil | refine SubE_cons rfl ?_)), rfl, SubR.refl _, rfl⟩, by simp only [List.length_set]; exact hk, by simp only; omega⟩
  · (repeat (first | refine W_seq ?_))
    refine W_region rfl ?_
    refine WL_is (X_move rfl rfl) rfl rfl rfl ?_
    refine WL_is (X_fieldAddr rfl rfl rfl (by simp only [Nat.zero_add] <;> rfl)) rfl rfl rfl ?_
    refine WL_is (X_load1 rfl rfl (by exact idx0) rfl rfl) rfl rfl rfl ?_
    refine WL_is (X_len rfl rfl rfl) rfl rfl rfl ?_
    refine WL_is (X_lss_f rfl rfl rfl (by omega)) rfl rfl rfl ?_
    (repeat (first | refine WL_nil ?_ | refine Then_normal ?_ | refine W_seq ?_ | refine W_exit ?_ | refine Then_exit ?_ | refine inBlk_here ?_ | refine W_false rfl ?_))
    skip
    refine W_region rfl ?_
    refine WL_is (X_assign rfl rfl) rfl rfl rfl ?_
    (repeat (first | refine WL_nil ?_ | refine Then_normal ?_ | refine W_block ?_))
    refine W_loop (X := Nat × List (Int × Int)) (L := fun k => ⟨[(3, .int .i64 (k.1 : Int)), (1, .pointer (some ⟨b_, 0, none⟩))], [], [blk b_ [.int .u8 o, .int .u8 gg, .int .u8 t, .slice a1 us.length c1, .slice a2 gs.length c2, .bool hm, .int .u8 m] 24,
      rowL encN (.slice a2 gs.length c2) 40 2 k.2], h⟩) (p := fun k => k.2.length = gs.length) (μ := fun k => gs.length - k.1) (0, gs) ⟨(by repeat (first | exact SubE_nil | refine SubE_cons rfl ?_)), rfl, SubR.cons _ (SubR.skip _ (SubR.refl _)), rfl⟩ rfl ?_
    rintro ⟨k', l'⟩ hk'
    simp only at hk'
    by_cases hlt' : k' < gs.length
    · refine W_updE (UpdE.shapePos 1 rfl (by omega)) ?_
      rintro _ _ - ⟨rfl, rfl, b1, rfl⟩
      (repeat (first | refine W_seq ?_))
      refine W_region rfl ?_
      refine WL_is (X_move rfl rfl) rfl rfl rfl ?_
      refine WL_is (X_fieldAddr rfl rfl rfl (by simp only [Nat.zero_add] <;> rfl)) rfl rfl rfl ?_
      refine WL_is (X_load1 rfl rfl (by exact idx0) rfl rfl) rfl rfl rfl ?_
      refine WL_is (X_len rfl rfl rfl) rfl rfl rfl ?_
      refine WL_is (X_lss_t rfl rfl rfl (by omega)) rfl rfl rfl ?_
      (repeat (first | refine WL_nil ?_ | refine Then_normal ?_ | refine W_seq ?_ | refine W_skip ?_ | refine W_block ?_ | refine W_true rfl ?_))
      skip
      refine W_draw0 10 rfl rfl rfl rfl ?_
      refine RG_val rfl rfl (fun _ => rfl) (fun _ => X_fieldAddr rfl rfl rfl (by simp only [Nat.zero_add] <;> rfl)) ?_
      refine RG_val rfl rfl (fun _ => rfl) (fun _ => X_load1 rfl rfl (by exact idx0) rfl rfl) ?_
      refine RG_val rfl rfl (fun _ => rfl) (fun _ => X_move rfl rfl) ?_
      refine RG_val rfl rfl (fun _ => rfl) (fun _ => X_fieldAddr rfl rfl rfl (by simp only [Nat.zero_add] <;> rfl)) ?_
      refine RG_val rfl rfl (fun _ => rfl) (fun _ => X_load1 rfl rfl (by exact idx0) rfl rfl) ?_
      refine RG_val rfl rfl (fun _ => rfl) (fun _ => X_move rfl rfl) ?_
      refine RG_val rfl rfl (fun _ => rfl) (fun _ => X_index_row rfl rfl (by exact idx1) rfl rfl rfl (by omega)) ?_
      refine RG_val rfl rfl (fun _ => rfl) (fun _ => X_fieldAddr_spot rfl rfl rfl (by simp only [Nat.zero_add] <;> rfl)) ?_
      refine RG_val rfl rfl (fun _ => rfl) (fun _ => X_load_spot rfl rfl (by exact idx1) (by (simp only; first | done | omega)) rfl (by (simp only; omega)) rfl) ?_
      refine RG_val rfl rfl (fun _ => rfl) (fun _ => X_xor rfl rfl rfl) ?_
      refine RG_nil ?_
      refine RG_endv rfl (fun vs => by simp only [endE, List.cons_append, List.nil_append] <;> rfl) (fun vs => rfl) ?_
      refine WL_is (X_index_row rfl rfl (by exact idx1) rfl rfl rfl (by omega)) rfl rfl rfl ?_
      refine WL_is (X_fieldAddr_spot rfl rfl rfl (by simp only [Nat.zero_add] <;> rfl)) rfl rfl rfl ?_
      refine WL_store_spot rfl rfl rfl (by exact idx1) (by (simp only; first | done | omega)) rfl rfl rfl rfl rfl (by (simp only; omega)) rfl rfl rfl rfl ?_
      (repeat (first | refine WL_nil ?_ | refine Then_normal ?_ | refine inBlk_normal ?_))
      skip
      refine W_region rfl ?_
      refine WL_is (X_move rfl rfl) rfl rfl rfl ?_
      refine WL_is (X_addW rfl rfl rfl (by exact wrap_i64_in (by omega) (by omega))) rfl rfl rfl ?_
      refine WL_is (X_assign rfl rfl) rfl rfl rfl ?_
      (repeat (first | refine WL_nil ?_ | refine Then_normal ?_))
      refine ⟨(k' + 1, _), ⟨(by repeat (first | exact SubE_nil | refine SubE_cons rfl ?_)), rfl, SubR.refl _, rfl⟩, by simp only [List.length_set]; exact hk', by simp only; omega⟩
    · (repeat (first | refine W_seq ?_))
      refine W_region rfl ?_
      refine WL_is (X_move rfl rfl) rfl rfl rfl ?_
      refine WL_is (X_fieldAddr rfl rfl rfl (by simp only [Nat.zero_add] <;> rfl)) rfl rfl rfl ?_
      refine WL_is (X_load1 rfl rfl (by exact idx0) rfl rfl) rfl rfl rfl ?_
      refine WL_is (X_len rfl rfl rfl) rfl rfl rfl ?_
      refine WL_is (X_lss_f rfl rfl rfl (by omega)) rfl rfl rfl ?_
      (repeat (first | refine WL_nil ?_ | refine Then_normal ?_ | refine W_exit ?_ | refine Then_exit ?_ | refine inBlk_here ?_ | refine W_false rfl ?_))
      refine Body_end0 rfl rfl rfl (SubR.none _) ?_
      trivial

/-- A list of one's own is known for good. -/
theorem owns.know {R : List SL} {h : PH} {v : Value} {a : Acl} (ho : owns v R a) : UpdE R h fun R' h' => AclV h' v a ∧ R' = [] := by
  obtain ⟨a1, c1, a2, c2, rfl, rfl⟩ := ho
  refine (UpdE.row (enc := encN) (L := a.us) 0 rfl (fun _ _ => rfl)).then ?_
  rintro R' h' - ⟨rfl, hu⟩
  refine (UpdE.row (enc := encN) (L := a.gs) 0 rfl (fun _ _ => rfl)).mono ?_
  rintro R'' h'' hl ⟨rfl, hg⟩
  exact ⟨⟨_, _, rfl, hu.mono hl, hg⟩, rfl⟩
section
variable {h : PH} {a : Acl} {v : Value}
theorem copyK_ref (hv : AclV h v a) (hs : a.small) : Does Try.prog 12 [v] [] h (Ret fun r R' h' => AclV h' r a ∧ R' = []) := (copy_ref h a v hv hs).upd fun _ _ _ _ ho => ho.know
theorem copyK_fn (hv : AclV h v a) (hs : a.small) : Does Try.prog 15 [v] [] h (Ret fun r R' h' => AclV h' r a ∧ R' = []) := (copy_fn h a v hv hs).upd fun _ _ _ _ ho => ho.know
theorem chmodK_ref {b : Int} (hv : AclV h v a) (hs : a.small) (hb : u16 b) : Does Try.prog 21 [v, .int .u16 b] [] h (Ret fun r R' h' => AclV h' r (a.chmod b) ∧ R' = []) := (chmod_ref h a v b hv hs hb).upd fun _ _ _ _ ho => ho.know
theorem chmodK_fn {b : Int} (hv : AclV h v a) (hs : a.small) (hb : u16 b) : Does Try.prog 16 [v, .int .u16 b] [] h (Ret fun r R' h' => AclV h' r (a.chmod b) ∧ R' = []) := (chmod_fn h a v b hv hs hb).upd fun _ _ _ _ ho => ho.know
theorem ofK_fn {b : Int} (hb : u16 b) : Does Try.prog 19 [.int .u16 b] [] h (Ret fun r R' h' => AclV h' r (Acl.chmod ⟨0, 0, 0, [], [], false, 0⟩ b) ∧ R' = []) := (of_fn h b hb).upd fun _ _ _ _ ho => ho.know
theorem ofK_ref {b : Int} (hb : u16 b) : Does Try.prog 20 [.int .u16 b] [] h (Ret fun r R' h' => AclV h' r ⟨b / 64 % 8, b / 8 % 8, b % 8, [], [], false, 0⟩ ∧ R' = []) := (of_ref h b hb).wkn fun _ _ _ _ ⟨e, e2⟩ => ⟨⟨_, _, e, Sl.nil, Sl.nil⟩, e2⟩
end

set_option maxHeartbeats 1000000 in
theorem alive_fn (h : PH) : Does Try.prog 9 [] [] h (Ret fun r _ _ => r = .bool true) := by
  refine Does_of_W Try.func9 rfl (n := 56) rfl rfl (by simp only [argE] <;> rfl) ?_
  (repeat (first | refine W_seq ?_))
  skip
  refine W_region rfl ?_
  refine WL_is (X_assign rfl rfl) rfl rfl rfl ?_
  (repeat (first | refine WL_nil ?_ | refine Then_normal ?_ | refine W_seq ?_))
  skip
  refine W_region rfl ?_
  refine WL_is (X_build rfl rfl rfl) rfl rfl rfl ?_
  refine WL_buildSlice rfl rfl rfl rfl rfl rfl rfl rfl rfl rfl rfl rfl rfl ?_
  intro b
  refine WL_upd (Upd.blkrow (cap := 1) (m := 1) (sz := 2) (xs := [.int .u16 5, .int .u8 6]) 0 rfl (Nat.le_refl _) rfl rfl) ?_
  refine WL_updE (UpdE.row (enc := encN) (L := [(5, 6)]) 0 rfl (fun _ _ => rfl)) ?_
  rintro R1 h1 hl1 ⟨rfl, hsl⟩
  refine WL_is (X_build rfl rfl rfl) rfl rfl rfl ?_
  (refine WL_alloc rfl rfl rfl rfl rfl rfl ?_; intro b_)
  refine WL_store rfl rfl rfl (by exact idx0) rfl rfl rfl rfl rfl rfl rfl rfl rfl ?_
  (repeat (first | refine WL_nil ?_ | refine Then_normal ?_ | refine W_seq ?_))
  skip
  refine W_region rfl ?_
  refine WL_is (X_loadA rfl rfl (by exact idx0) rfl rfl rfl) rfl rfl rfl ?_
  have hA : AclV h1 (aclV ⟨7, 7, 7, [(5, 6)], [], true, 6⟩ (.slice (some ⟨b, 0, none⟩) 1 1) (.slice none 0 0)) ⟨7, 7, 7, [(5, 6)], [], true, 6⟩ := ⟨_, _, rfl, hsl, Sl.nil⟩
  have cc := chmodK_fn hA ⟨by decide, by decide⟩ (b := 448) ⟨by decide, by decide⟩
  rw [show Acl.chmod ⟨7, 7, 7, [(5, 6)], [], true, 6⟩ 448 = ⟨7, 7, 0, [(5, 6)], [], true, 0⟩ from rfl] at cc
  refine WL_call rfl rfl rfl Try.func16 rfl rfl rfl rfl cc ?_
  rintro r R' h2 hl2 ⟨⟨u, g, rfl, hu, hg⟩, rfl⟩
  have okA : Acl.Ok ⟨7, 7, 7, [(5, 6)], [], true, 6⟩ := ⟨by simp [u8], by simp [u8], by simp [u8], by simp [u8], by simp [u8, u16], by simp⟩
  have okB : Acl.Ok ⟨7, 7, 0, [(5, 6)], [], true, 0⟩ := ⟨by simp [u8], by simp [u8], by simp [u8], by simp [u8], by simp [u8, u16], by simp⟩
  have hB : AclV h2 _ ⟨7, 7, 0, [(5, 6)], [], true, 0⟩ := ⟨u, g, rfl, hu, hg⟩
  obtain ⟨a1, c1, rfl⟩ := hu.shape
  obtain ⟨a2, c2, rfl⟩ := hg.shape
  replace hA := hA.mono hl2
  replace hsl := hsl.mono hl2
  have d1 := check_fn h2 _ _ hA ⟨by decide, by decide⟩ okA
  have d2 := bits_fn h2 _ (.slice (some ⟨b, 0, none⟩) 1 1) (.slice none 0 0) okA
  have d3 := bits_fn h2 _ (.slice a1 1 c1) (.slice a2 0 c2) okB
  rw [show Acl.may ⟨7, 7, 7, [(5, 6)], [], true, 6⟩ = true from by decide, if_pos rfl] at d1
  rw [show Acl.bits ⟨7, 7, 7, [(5, 6)], [], true, 6⟩ = 503 from rfl] at d2
  rw [show Acl.bits ⟨7, 7, 0, [(5, 6)], [], true, 0⟩ = 448 from rfl] at d3
  simp only [aclV, List.length_cons, List.length_nil, Nat.zero_add] at *
  (refine WL_alloc rfl rfl rfl rfl rfl rfl ?_; intro b_)
  refine WL_store rfl rfl rfl (by exact idx0) rfl rfl rfl rfl rfl rfl rfl rfl rfl ?_
  (repeat (first | refine WL_nil ?_ | refine Then_normal ?_ | refine W_seq ?_))
  skip
  refine W_region rfl ?_
  refine WL_is (X_loadA rfl rfl (by exact idx1) rfl rfl rfl) rfl rfl rfl ?_
  refine WL_is (X_callv rfl rfl rfl Try.func11 rfl (by assumption)) rfl rfl rfl ?_
  refine WL_is (X_eql_t rfl rfl rfl (by omega)) rfl rfl rfl ?_
  refine WL_is (X_move rfl rfl) rfl rfl rfl ?_
  refine WL_is (X_loadA rfl rfl (by exact idx1) rfl rfl rfl) rfl rfl rfl ?_
  refine WL_is (X_callv rfl rfl rfl Try.func17 rfl (by assumption)) rfl rfl rfl ?_
  refine WL_is (X_eql_t rfl rfl rfl (by omega)) rfl rfl rfl ?_
  refine WL_is (X_pick_t rfl rfl rfl) rfl rfl rfl ?_
  refine WL_is (X_move rfl rfl) rfl rfl rfl ?_
  refine WL_is (X_loadA rfl rfl (by exact idx0) rfl rfl rfl) rfl rfl rfl ?_
  refine WL_is (X_callv rfl rfl rfl Try.func17 rfl (by assumption)) rfl rfl rfl ?_
  refine WL_is (X_eql_t rfl rfl rfl (by omega)) rfl rfl rfl ?_
  refine WL_is (X_pick_t rfl rfl rfl) rfl rfl rfl ?_
  refine WL_is (X_move rfl rfl) rfl rfl rfl ?_
  refine WL_is (X_fieldAddr rfl rfl rfl (by simp only [Nat.zero_add] <;> rfl)) rfl rfl rfl ?_
  refine WL_is (X_load1 rfl rfl (by exact idx0) rfl rfl) rfl rfl rfl ?_
  refine WL_is (X_eql_t rfl rfl rfl (by omega)) rfl rfl rfl ?_
  refine WL_is (X_pick_t rfl rfl rfl) rfl rfl rfl ?_
  refine WL_is (X_move rfl rfl) rfl rfl rfl ?_
  refine WL_is (X_fieldAddr rfl rfl rfl (by simp only [Nat.zero_add] <;> rfl)) rfl rfl rfl ?_
  refine WL_is (X_load1 rfl rfl (by exact idx0) rfl rfl) rfl rfl rfl ?_
  refine WL_is (X_len_sl rfl rfl rfl (by assumption)) rfl rfl rfl ?_
  refine WL_is (X_eql rfl rfl rfl) rfl rfl rfl ?_
  refine WL_is (X_pick_t rfl rfl rfl) rfl rfl rfl ?_
  refine WL_is (X_move rfl rfl) rfl rfl rfl ?_
  refine WL_is (X_fieldAddr rfl rfl rfl (by simp only [Nat.zero_add] <;> rfl)) rfl rfl rfl ?_
  refine WL_is (X_load1 rfl rfl (by exact idx0) rfl rfl) rfl rfl rfl ?_
  refine WL_index_sl rfl rfl rfl rfl rfl hu (by decide) (by decide) rfl rfl rfl ?_
  intro p hp
  have hp : At h2 p [.int .u16 5, .int .u8 6] := hp
  (refine WL_fieldAddr_at rfl rfl (by assumption) rfl rfl rfl rfl ?_; intro p_ hp_)
  refine WL_is (X_load1_at rfl rfl (by assumption) rfl rfl) rfl rfl rfl ?_
  refine WL_is (X_eql_t rfl rfl rfl (by omega)) rfl rfl rfl ?_
  refine WL_is (X_pick_t rfl rfl rfl) rfl rfl rfl ?_
  refine WL_is (X_move rfl rfl) rfl rfl rfl ?_
  have co := ofK_fn (h := h2) (b := 416) ⟨by decide, by decide⟩
  rw [show Acl.chmod ⟨0, 0, 0, [], [], false, 0⟩ 416 = ⟨6, 4, 0, [], [], false, 0⟩ from rfl] at co
  refine WL_call rfl rfl rfl Try.func19 rfl rfl rfl rfl co ?_
  rintro r R' h3 hl3 ⟨hC, rfl⟩
  have hD : AclV h3 (aclV ⟨6, 4, 0, [], [], false, 0⟩ (.slice none 0 0) (.slice none 0 0)) ⟨6, 4, 0, [], [], false, 0⟩ := ⟨_, _, rfl, Sl.nil, Sl.nil⟩
  have hE : AclV h3 (aclV ⟨8, 0, 0, [], [], false, 0⟩ (.slice none 0 0) (.slice none 0 0)) ⟨8, 0, 0, [], [], false, 0⟩ := ⟨_, _, rfl, Sl.nil, Sl.nil⟩
  have e1 := same_fn h3 _ _ _ _ hC hD ⟨by decide, by decide⟩ ⟨by decide, by decide⟩
  have e2 := same_fn h3 _ _ _ _ (hA.mono hl3) (hB.mono hl3) ⟨by decide, by decide⟩ ⟨by decide, by decide⟩
  have e3 := check_fn h3 _ _ hE ⟨by decide, by decide⟩ ⟨by simp [u8], by simp [u8], by simp [u8], by simp [u8], by simp, by simp⟩
  rw [decide_eq_true (by rfl)] at e1
  rw [decide_eq_false (by simp)] at e2
  rw [show Acl.may ⟨8, 0, 0, [], [], false, 0⟩ = false from by decide, if_neg (by simp)] at e3
  simp only [aclV] at e1 e2 e3
  refine WL_is (X_build rfl rfl rfl) rfl rfl rfl ?_
  refine WL_is (X_callv rfl rfl rfl Try.func13 rfl (by assumption)) rfl rfl rfl ?_
  refine WL_is (X_pick_t rfl rfl rfl) rfl rfl rfl ?_
  refine WL_is (X_move rfl rfl) rfl rfl rfl ?_
  refine WL_is (X_loadA rfl rfl (by exact idx1) rfl rfl rfl) rfl rfl rfl ?_
  refine WL_is (X_loadA rfl rfl (by exact idx0) rfl rfl rfl) rfl rfl rfl ?_
  refine WL_is (X_callv rfl rfl rfl Try.func13 rfl (by assumption)) rfl rfl rfl ?_
  refine WL_is (X_not rfl rfl) rfl rfl rfl ?_
  refine WL_is (X_pick_t rfl rfl rfl) rfl rfl rfl ?_
  refine WL_is (X_move rfl rfl) rfl rfl rfl ?_
  refine WL_is (X_build rfl rfl rfl) rfl rfl rfl ?_
  refine WL_is (X_callv rfl rfl rfl Try.func11 rfl (by assumption)) rfl rfl rfl ?_
  refine WL_is (X_eql_t rfl rfl rfl (by omega)) rfl rfl rfl ?_
  refine WL_is (X_pick_t rfl rfl rfl) rfl rfl rfl ?_
  refine WL_is (X_assign rfl rfl) rfl rfl rfl ?_
  (repeat (first | refine WL_nil ?_ | refine Then_normal ?_ | refine W_ret ?_))
  refine Body_end rfl rfl rfl (SubR.none _) ?_
  rfl
end Go.Proofs.Yteblocppjloggaa
