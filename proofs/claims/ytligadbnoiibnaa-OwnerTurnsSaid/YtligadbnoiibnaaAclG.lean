/- Access lists: what spoils one; the answers that are fixed. -/
import Derived.Test.YtligadbnoiibnaaAclF
namespace Go.Proofs.Ytligadbnoiibnaa
set_option maxRecDepth 4000
open Go Go.Par PH
attribute [local irreducible] W WL Does Exec Body Then inBlk RG WR row obj pblk
instance decN : Dec encN 2 where
  len _ := rfl
  dec c := match c with
    | [.int .u16 a, .int .u8 b] => some (a, b)
    | _ => none
  ok c x h := by
    revert h
    split
    · intro h; cases h; rfl
    · intro h; cases h
/-- A list of one's own is known for good. -/
theorem owns.know {R : List SL} {h : PH} {v : Value} {a : Acl} (ho : owns v R a) : UpdE R h fun R' h' => AclV h' v a ∧ R' = [] := by
  obtain ⟨a1, c1, a2, c2, rfl, rfl⟩ := ho
  refine (UpdE.row (enc := encN) (L := a.us) 0 rfl (fun _ _ => rfl)).then ?_
  rintro R' h' - ⟨rfl, hu⟩
  refine (UpdE.row (enc := encN) (L := a.gs) 0 rfl (fun _ _ => rfl)).mono ?_
  rintro R'' h'' hl ⟨rfl, hg⟩
  exact ⟨⟨_, _, rfl, hu.mono hl, hg⟩, rfl⟩
section
variable {h : PH} {a : Acl} {v : Value}
theorem copyK_ref (hv : AclV h v a) (hs : a.small) : Does Try.prog 12 [v] [] h (Ret fun r R' h' => AclV h' r a ∧ R' = []) := (copy_ref h a v hv hs).upd fun _ _ _ _ ho => ho.know
theorem copyK_fn (hv : AclV h v a) (hs : a.small) : Does Try.prog 42 [v] [] h (Ret fun r R' h' => AclV h' r a ∧ R' = []) := (copy_fn h a v hv hs).upd fun _ _ _ _ ho => ho.know
theorem chmodK_ref {b : Int} (hv : AclV h v a) (hs : a.small) (hb : u16 b) : Does Try.prog 25 [v, .int .u16 b] [] h (Ret fun r R' h' => AclV h' r (a.chmod b) ∧ R' = []) := (chmod_ref h a v b hv hs hb).upd fun _ _ _ _ ho => ho.know
theorem chmodK_fn {b : Int} (hv : AclV h v a) (hs : a.small) (hb : u16 b) : Does Try.prog 52 [v, .int .u16 b] [] h (Ret fun r R' h' => AclV h' r (a.chmod b) ∧ R' = []) := (chmod_fn h a v b hv hs hb).upd fun _ _ _ _ ho => ho.know
theorem ofK_ref {b : Int} (hb : u16 b) : Does Try.prog 57 [.int .u16 b] [] h (Ret fun r R' h' => AclV h' r ⟨b / 64 % 8, b / 8 % 8, b % 8, [], [], false, 0⟩ ∧ R' = []) := (of_ref h b hb).wkn fun _ _ _ _ ⟨e, e2⟩ => ⟨⟨_, _, e, Sl.nil, Sl.nil⟩, e2⟩
end
end Go.Proofs.Ytligadbnoiibnaa
