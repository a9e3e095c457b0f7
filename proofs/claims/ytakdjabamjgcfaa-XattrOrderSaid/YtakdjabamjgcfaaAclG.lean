/- Access lists: what spoils one; the answers that are fixed. -/
import Derived.Test.YtakdjabamjgcfaaAclF
namespace Go.Proofs.Ytakdjabamjgcfaa
set_option maxRecDepth 4000
open Go Go.Par PH
attribute [local irreducible] W WL Does Exec Body Then inBlk RG WR row obj pblk
instance decN : Dec encN 2 where
  len _ := rfl
  dec c := match c with
    | [.int .u16 a, .int .u8 b] => some (a, b)
    | _ => none
  ok c x h := by
    revert h
    split
    · intro h; cases h; rfl
    · intro h; cases h
/-- A list of one's own is known for good. -/
theorem owns.know {R : List SL} {h : PH} {v : Value} {a : Acl} (ho : owns v R a) : UpdE R h fun R' h' => AclV h' v a ∧ R' = [] := by
  obtain ⟨a1, c1, a2, c2, rfl, rfl⟩ := ho
  refine (UpdE.row (enc := encN) (L := a.us) 0 rfl (fun _ _ => rfl)).then ?_
  rintro R' h' - ⟨rfl, hu⟩
  refine (UpdE.row (enc := encN) (L := a.gs) 0 rfl (fun _ _ => rfl)).mono ?_
  rintro R'' h'' hl ⟨rfl, hg⟩
  exact ⟨⟨_, _, rfl, hu.mono hl, hg⟩, rfl⟩
section
variable {h : PH} {a : Acl} {v : Value}
end
end Go.Proofs.Ytakdjabamjgcfaa
