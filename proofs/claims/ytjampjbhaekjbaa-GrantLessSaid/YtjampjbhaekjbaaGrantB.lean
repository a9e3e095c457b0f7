/- Who may do what: perms put together; lists thinned out. -/
import Derived.Test.YtjampjbhaekjbaaGrantA
import Derived.Test.YtjampjbhaekjbaaAclG
namespace Go.Proofs.Ytjampjbhaekjbaa
open Go Go.Par PH
def hasP (x w : Int) : Bool := decide (bits .and .u8 x w = w)
def maskP (a : Acl) : Int := if a.hm then a.m else 7
def maskedP (a : Acl) (x : Int) : Int := if a.hm then bits .and .u8 x a.m else x
def runsP (a : Acl) : Bool := (a.us.any fun x => hasP x.2 1) || (a.gs.any fun x => hasP x.2 1) || (hasP a.o 1 || hasP a.g 1 || hasP a.t 1)
def unionP (l : List Int) : Int := l.foldl (fun n p => bits .or .u8 n p) 0
def permsP (l : List (Int × Int)) : List Int := l.map (·.2)
theorem elemB : ElemT Try.prog 49 5 1 1 := ElemT.mk' rfl rfl
theorem lenB (l : List Int) : ∀ x ∈ l, (encU8 x).length = 1 := fun _ _ => rfl
theorem flatB (l : List Int) : ∀ x ∈ l, (encU8 x).all flat = true := fun _ _ => rfl
instance decB : Dec encU8 1 where
  len _ := rfl
  dec c := match c with
    | [.int .u8 a] => some a
    | _ => none
  ok c x h := by
    revert h
    split
    · intro h; cases h; rfl
    · intro h; cases h
theorem wr_take {c vs : List Value} {off : Nat} (h : off + vs.length ≤ c.length) : (wr c off vs).take off = c.take off := by
  apply List.ext_getElem?
  intro t
  rw [List.getElem?_take, List.getElem?_take]
  split
  · rename_i ht
    rw [wr_get h, if_neg (by omega)]
  · rfl
theorem take_flat {α : Type} {enc : α → List Value} {sz : Nat} : ∀ (L : List α) (_ : ∀ x ∈ L, (enc x).length = sz) (i : Nat), (L.flatMap enc).take (i * sz) = (L.take i).flatMap enc
  | [], _, i => by simp
  | x :: L, h, 0 => by simp
  | x :: L, h, i + 1 => by
    rw [List.flatMap_cons, List.take_succ_cons, List.flatMap_cons, ← take_flat L (fun y hy => h y (by simp [hy])) i]
    have hx : (enc x).length = sz := h x (by simp)
    have e : (i + 1) * sz = sz + i * sz := by rw [Nat.add_mul, Nat.one_mul, Nat.add_comm]
    rw [List.take_append, hx, e, Nat.add_sub_cancel_left, List.take_of_length_le (by omega)]
attribute [local irreducible] W WL Does Exec Body Then inBlk RG WR row obj pblk
attribute [local irreducible] bits
theorem has_ref (h : PH) (x w : Int) : Does Try.prog 43 [.int .u8 x, .int .u8 w] [] h (Ret fun r _ _ => r = .bool (hasP x w)) := by
  refine Does_of_W Try.func43 rfl (n := 10) rfl rfl (by simp only [argE, Nat.reduceAdd] <;> rfl) ?_
  by_cases hh : bits .and .u8 x w = w
  · (repeat (first | refine W_seq ?_))
    skip
    refine W_region rfl ?_
    refine WL_is (X_assign rfl rfl) rfl rfl rfl ?_
    (repeat (first | refine WL_nil ?_ | refine Then_normal ?_ | refine W_seq ?_))
    skip
    refine W_region rfl ?_
    refine WL_is (X_move rfl rfl) rfl rfl rfl ?_
    refine WL_is (X_move rfl rfl) rfl rfl rfl ?_
    refine WL_is (X_and rfl rfl rfl) rfl rfl rfl ?_
    refine WL_is (X_move rfl rfl) rfl rfl rfl ?_
    refine WL_is (X_eql_t rfl rfl rfl (by omega)) rfl rfl rfl ?_
    refine WL_is (X_assign rfl rfl) rfl rfl rfl ?_
    (repeat (first | refine WL_nil ?_ | refine Then_normal ?_ | refine W_ret ?_))
    refine Body_end rfl rfl rfl (SubR.none _) ?_
    unfold hasP; rw [decide_eq_true hh]
  · (repeat (first | refine W_seq ?_))
    skip
    refine W_region rfl ?_
    refine WL_is (X_assign rfl rfl) rfl rfl rfl ?_
    (repeat (first | refine WL_nil ?_ | refine Then_normal ?_ | refine W_seq ?_))
    skip
    refine W_region rfl ?_
    refine WL_is (X_move rfl rfl) rfl rfl rfl ?_
    refine WL_is (X_move rfl rfl) rfl rfl rfl ?_
    refine WL_is (X_and rfl rfl rfl) rfl rfl rfl ?_
    refine WL_is (X_move rfl rfl) rfl rfl rfl ?_
    refine WL_is (X_eql_f rfl rfl rfl (by omega)) rfl rfl rfl ?_
    refine WL_is (X_assign rfl rfl) rfl rfl rfl ?_
    (repeat (first | refine WL_nil ?_ | refine Then_normal ?_ | refine W_ret ?_))
    refine Body_end rfl rfl rfl (SubR.none _) ?_
    unfold hasP; rw [decide_eq_false hh]
theorem masked_ref (h : PH) (a : Acl) (u g : Value) (x : Int) : Does Try.prog 45 [aclV a u g, .int .u8 x] [] h (Ret fun r _ _ => r = .int .u8 (maskedP a x)) := by
  obtain ⟨o, gg, t, us, gs, hm, m⟩ := a
  unfold aclV
  refine Does_of_W Try.func45 rfl (n := 12) rfl rfl (by simp only [argE, Nat.reduceAdd] <;> rfl) ?_
  cases hm with
  | true =>
    (repeat (first | refine W_seq ?_))
    skip
    refine W_region rfl ?_
    (refine WL_box rfl rfl rfl rfl rfl rfl ?_; intro b_)
    refine WL_is (X_assign rfl rfl) rfl rfl rfl ?_
    (repeat (first | refine WL_nil ?_ | refine Then_normal ?_ | refine W_seq ?_))
    skip
    refine W_region rfl ?_
    refine WL_is (X_fieldAddr rfl rfl rfl (by simp only [Nat.zero_add] <;> rfl)) rfl rfl rfl ?_
    refine WL_is (X_load1 rfl rfl (by exact idx0) rfl rfl) rfl rfl rfl ?_
    (repeat (first | refine WL_nil ?_ | refine Then_normal ?_ | refine W_seq ?_ | refine W_true rfl ?_))
    skip
    refine W_region rfl ?_
    refine WL_is (X_move rfl rfl) rfl rfl rfl ?_
    refine WL_is (X_fieldAddr rfl rfl rfl (by simp only [Nat.zero_add] <;> rfl)) rfl rfl rfl ?_
    refine WL_is (X_load1 rfl rfl (by exact idx0) rfl rfl) rfl rfl rfl ?_
    refine WL_is (X_and rfl rfl rfl) rfl rfl rfl ?_
    refine WL_is (X_assign rfl rfl) rfl rfl rfl ?_
    (repeat (first | refine WL_nil ?_ | refine Then_normal ?_ | refine W_ret ?_ | refine Then_ret ?_))
    refine Body_end rfl rfl rfl (SubR.none _) ?_
    rfl
  | false =>
    (repeat (first | refine W_seq ?_))
    skip
    refine W_region rfl ?_
    (refine WL_box rfl rfl rfl rfl rfl rfl ?_; intro b_)
    refine WL_is (X_assign rfl rfl) rfl rfl rfl ?_
    (repeat (first | refine WL_nil ?_ | refine Then_normal ?_ | refine W_seq ?_))
    skip
    refine W_region rfl ?_
    refine WL_is (X_fieldAddr rfl rfl rfl (by simp only [Nat.zero_add] <;> rfl)) rfl rfl rfl ?_
    refine WL_is (X_load1 rfl rfl (by exact idx0) rfl rfl) rfl rfl rfl ?_
    (repeat (first | refine WL_nil ?_ | refine Then_normal ?_ | refine W_seq ?_ | refine W_skip ?_ | refine W_false rfl ?_))
    skip
    refine W_region rfl ?_
    refine WL_is (X_move rfl rfl) rfl rfl rfl ?_
    refine WL_is (X_assign rfl rfl) rfl rfl rfl ?_
    (repeat (first | refine WL_nil ?_ | refine Then_normal ?_ | refine W_ret ?_))
    refine Body_end rfl rfl rfl (SubR.none _) ?_
    rfl
theorem mask_fn (h : PH) (a : Acl) (u g : Value) : Does Try.prog 42 [aclV a u g] [] h (Ret fun r _ _ => r = .int .u8 (maskP a)) := by
  obtain ⟨o, gg, t, us, gs, hm, m⟩ := a
  unfold aclV
  refine Does_of_W Try.func42 rfl (n := 7) rfl rfl (by simp only [argE] <;> rfl) ?_
  cases hm with
  | true =>
    (repeat (first | refine W_seq ?_))
    skip
    refine W_region rfl ?_
    (refine WL_box rfl rfl rfl rfl rfl rfl ?_; intro b_)
    refine WL_is (X_assign rfl rfl) rfl rfl rfl ?_
    (repeat (first | refine WL_nil ?_ | refine Then_normal ?_ | refine W_seq ?_))
    skip
    refine W_region rfl ?_
    refine WL_is (X_fieldAddr rfl rfl rfl (by simp only [Nat.zero_add] <;> rfl)) rfl rfl rfl ?_
    refine WL_is (X_load1 rfl rfl (by exact idx0) rfl rfl) rfl rfl rfl ?_
    (repeat (first | refine WL_nil ?_ | refine Then_normal ?_ | refine W_seq ?_ | refine W_true rfl ?_))
    skip
    refine W_region rfl ?_
    refine WL_is (X_fieldAddr rfl rfl rfl (by simp only [Nat.zero_add] <;> rfl)) rfl rfl rfl ?_
    refine WL_is (X_load1 rfl rfl (by exact idx0) rfl rfl) rfl rfl rfl ?_
    refine WL_is (X_assign rfl rfl) rfl rfl rfl ?_
    (repeat (first | refine WL_nil ?_ | refine Then_normal ?_ | refine W_ret ?_ | refine Then_ret ?_))
    refine Body_end rfl rfl rfl (SubR.none _) ?_
    rfl
  | false =>
    (repeat (first | refine W_seq ?_))
    skip
    refine W_region rfl ?_
    (refine WL_box rfl rfl rfl rfl rfl rfl ?_; intro b_)
    refine WL_is (X_assign rfl rfl) rfl rfl rfl ?_
    (repeat (first | refine WL_nil ?_ | refine Then_normal ?_ | refine W_seq ?_))
    skip
    refine W_region rfl ?_
    refine WL_is (X_fieldAddr rfl rfl rfl (by simp only [Nat.zero_add] <;> rfl)) rfl rfl rfl ?_
    refine WL_is (X_load1 rfl rfl (by exact idx0) rfl rfl) rfl rfl rfl ?_
    (repeat (first | refine WL_nil ?_ | refine Then_normal ?_ | refine W_seq ?_ | refine W_skip ?_ | refine W_false rfl ?_))
    skip
    refine W_region rfl ?_
    refine WL_is (X_assign rfl rfl) rfl rfl rfl ?_
    (repeat (first | refine WL_nil ?_ | refine Then_normal ?_ | refine W_ret ?_))
    refine Body_end rfl rfl rfl (SubR.none _) ?_
    rfl
set_option maxHeartbeats 1000000 in
theorem union_fn (h : PH) (l : List Int) (v : Value) (hv : Sl encU8 1 h v l) (hl : l.length ≤ 1000000) : Does Try.prog 40 [v] [] h (Ret fun r R' _ => r = .int .u8 (unionP l) ∧ R' = []) := by
  refine Does_of_W Try.func40 rfl (n := 17) rfl rfl (by simp only [argE] <;> rfl) ?_
  (repeat (first | refine W_seq ?_))
  skip
  refine W_region rfl ?_
  refine WL_is (X_assign rfl rfl) rfl rfl rfl ?_
  (repeat (first | refine WL_nil ?_ | refine Then_normal ?_ | refine W_seq ?_))
  skip
  refine W_region rfl ?_
  refine WL_is (X_assign rfl rfl) rfl rfl rfl ?_
  (repeat (first | refine WL_nil ?_ | refine Then_normal ?_ | refine W_seq ?_))
  skip
  refine W_region rfl ?_
  refine WL_is (X_move rfl rfl) rfl rfl rfl ?_
  refine WL_is (X_len_sl rfl rfl rfl (by assumption)) rfl rfl rfl ?_
  refine WL_is (X_move rfl rfl) rfl rfl rfl ?_
  (repeat (first | refine WL_nil ?_ | refine Then_normal ?_ | refine W_block ?_))
  refine W_loop (X := Nat) (L := fun k => ⟨[(8, .int .i64 (k : Int)), (7, .int .i64 (l.length : Int)), (6, v), (3, .int .u8 (unionP (l.take k)))], [], [], h⟩) (p := fun k => k ≤ l.length) (μ := fun k => l.length - k) 0 ⟨(by repeat (first | exact SubE_nil | refine SubE_cons rfl ?_)), rfl, SubR.refl _, rfl⟩ (Nat.zero_le _) ?_
  intro k hk
  by_cases hlt : k < l.length
  · have hs : unionP (l.take (k + 1)) = bits .or .u8 (unionP (l.take k)) l[k] := by
      unfold unionP
      rw [List.take_succ_eq_append_getElem hlt, List.foldl_append]; rfl
    (repeat (first | refine W_seq ?_))
    refine W_region rfl ?_
    refine WL_is (X_lss_t rfl rfl rfl (by omega)) rfl rfl rfl ?_
    (repeat (first | refine WL_nil ?_ | refine Then_normal ?_ | refine W_seq ?_ | refine W_skip ?_ | refine W_block ?_ | refine W_true rfl ?_))
    skip
    refine W_region rfl ?_
    (refine WL_index_slN rfl rfl rfl rfl rfl (by assumption) (by omega) rfl rfl rfl ?_; intro p_ hp_)
    refine WL_is (X_load1_at rfl rfl (by assumption) rfl rfl) rfl rfl rfl ?_
    refine WL_is (X_assign rfl rfl) rfl rfl rfl ?_
    (repeat (first | refine WL_nil ?_ | refine Then_normal ?_))
    skip
    refine W_region rfl ?_
    refine WL_is (X_move rfl rfl) rfl rfl rfl ?_
    refine WL_is (X_move rfl rfl) rfl rfl rfl ?_
    refine WL_is (X_or rfl rfl rfl) rfl rfl rfl ?_
    refine WL_is (X_assign rfl rfl) rfl rfl rfl ?_
    (repeat (first | refine WL_nil ?_ | refine Then_normal ?_ | refine inBlk_normal ?_))
    skip
    refine W_region rfl ?_
    refine WL_is (X_addW rfl rfl rfl (by exact wrap_i64_in (by omega) (by omega))) rfl rfl rfl ?_
    refine WL_is (X_move rfl rfl) rfl rfl rfl ?_
    (repeat (first | refine WL_nil ?_ | refine Then_normal ?_))
    exact ⟨k + 1, ⟨by rw [hs]; exact (by repeat (first | exact SubE_nil | refine SubE_cons rfl ?_)), rfl, SubR.refl _, rfl⟩, by omega, by omega⟩
  · have hkl : k = l.length := by omega
    subst hkl
    rw [List.take_length]
    (repeat (first | refine W_seq ?_))
    refine W_region rfl ?_
    refine WL_is (X_lss_f rfl rfl rfl (by omega)) rfl rfl rfl ?_
    (repeat (first | refine WL_nil ?_ | refine Then_normal ?_ | refine W_seq ?_ | refine W_exit ?_ | refine Then_exit ?_ | refine inBlk_here ?_ | refine W_false rfl ?_))
    skip
    refine W_region rfl ?_
    refine WL_is (X_move rfl rfl) rfl rfl rfl ?_
    refine WL_is (X_assign rfl rfl) rfl rfl rfl ?_
    (repeat (first | refine WL_nil ?_ | refine Then_normal ?_ | refine W_ret ?_))
    exact Body_end rfl rfl rfl (SubR.none _) ⟨rfl, rfl⟩
set_option maxHeartbeats 1000000 in
theorem perms_fn (h : PH) (l : List (Int × Int)) (v : Value) (hv : Sl encN 2 h v l) (hl : l.length ≤ 1000000) : Does Try.prog 41 [v] [] h (Ret fun r R' _ => R' = [rowL encU8 r 5 1 (permsP l)]) := by
  refine Does_of_W Try.func41 rfl (n := 19) rfl rfl (by simp only [argE] <;> rfl) ?_
  (repeat (first | refine W_seq ?_))
  skip
  refine W_region rfl ?_
  refine WL_is (X_assign rfl rfl) rfl rfl rfl ?_
  (repeat (first | refine WL_nil ?_ | refine Then_normal ?_ | refine W_seq ?_))
  skip
  refine W_region rfl ?_
  refine WL_is (X_assign rfl rfl) rfl rfl rfl ?_
  (repeat (first | refine WL_nil ?_ | refine Then_normal ?_ | refine W_seq ?_))
  skip
  refine W_region rfl ?_
  refine WL_is (X_move rfl rfl) rfl rfl rfl ?_
  refine WL_is (X_len_sl rfl rfl rfl (by assumption)) rfl rfl rfl ?_
  refine WL_is (X_move rfl rfl) rfl rfl rfl ?_
  (repeat (first | refine WL_nil ?_ | refine Then_normal ?_ | refine W_block ?_))
  refine W_upd (Upd.nilrow (e := 5) (sz := 1)) ?_
  refine W_loop (X := Nat × Value) (L := fun x => ⟨[(8, .int .i64 (x.1 : Int)), (7, .int .i64 (l.length : Int)), (6, v), (3, x.2)], [], [rowL encU8 x.2 5 1 (permsP (l.take x.1))], h⟩) (p := fun x => x.1 ≤ l.length) (μ := fun x => l.length - x.1) (0, .slice none 0 0) ⟨(by repeat (first | exact SubE_nil | refine SubE_cons rfl ?_)), rfl, SubR.refl _, rfl⟩ (Nat.zero_le _) ?_
  rintro ⟨k, u⟩ hk
  dsimp only at hk ⊢
  by_cases hlt : k < l.length
  · have hs : permsP (l.take (k + 1)) = permsP (l.take k) ++ [l[k].2] := by
      unfold permsP
      rw [List.take_succ_eq_append_getElem hlt, List.map_append]; rfl
    have hpl : (permsP (l.take k)).length ≤ 1000000 := by unfold permsP; simp; omega
    (repeat (first | refine W_seq ?_))
    refine W_region rfl ?_
    refine WL_is (X_lss_t rfl rfl rfl (by omega)) rfl rfl rfl ?_
    (repeat (first | refine WL_nil ?_ | refine Then_normal ?_ | refine W_seq ?_ | refine W_skip ?_ | refine W_block ?_ | refine W_true rfl ?_))
    skip
    refine W_region rfl ?_
    (refine WL_index_slN rfl rfl rfl rfl rfl (by assumption) (by omega) rfl rfl rfl ?_; intro p_ hp_)
    refine WL_is (X_loadA_at rfl rfl (by assumption) rfl rfl rfl) rfl rfl rfl ?_
    (refine WL_alloc rfl rfl rfl rfl rfl rfl ?_; intro b_)
    refine WL_store rfl rfl rfl (by exact idx0) rfl rfl rfl rfl rfl rfl rfl rfl rfl ?_
    (repeat (first | refine WL_nil ?_ | refine Then_normal ?_))
    skip
    refine W_region rfl ?_
    refine WL_is (X_move rfl rfl) rfl rfl rfl ?_
    refine WL_is (X_fieldAddr rfl rfl rfl (by simp only [Nat.zero_add] <;> rfl)) rfl rfl rfl ?_
    refine WL_is (X_load1 rfl rfl (by exact idx0) rfl rfl) rfl rfl rfl ?_
    refine WL_buildSlice rfl rfl rfl rfl rfl rfl rfl rfl rfl rfl rfl rfl rfl ?_
    intro w
    refine WL_append (enc := encU8) (L' := [l[k].2]) (i := 2) rfl rfl rfl elemB rfl rfl (Src.own (i := 0) (c := [.int .u8 l[k].2]) rfl rfl) (flatB _) (by simp only [List.length_cons, List.length_nil]; omega) (by simp only [List.length_cons, List.length_nil]; omega) rfl rfl rfl ?_
    intro v'
    refine WL_is (X_assign rfl rfl) rfl rfl rfl ?_
    (repeat (first | refine WL_nil ?_ | refine Then_normal ?_ | refine inBlk_normal ?_))
    skip
    refine W_region rfl ?_
    refine WL_is (X_addW rfl rfl rfl (by exact wrap_i64_in (by omega) (by omega))) rfl rfl rfl ?_
    refine WL_is (X_move rfl rfl) rfl rfl rfl ?_
    (repeat (first | refine WL_nil ?_ | refine Then_normal ?_))
    exact ⟨(k + 1, v'), ⟨(by repeat (first | exact SubE_nil | refine SubE_cons rfl ?_)), rfl, SubR.skip _ (SubR.skip _ (SubR.of_perm (by rw [hs]; exact .refl _))), rfl⟩, by dsimp only; omega, by dsimp only; omega⟩
  · have hkl : k = l.length := by omega
    subst hkl
    rw [List.take_length]
    (repeat (first | refine W_seq ?_))
    refine W_region rfl ?_
    refine WL_is (X_lss_f rfl rfl rfl (by omega)) rfl rfl rfl ?_
    (repeat (first | refine WL_nil ?_ | refine Then_normal ?_ | refine W_seq ?_ | refine W_exit ?_ | refine Then_exit ?_ | refine inBlk_here ?_ | refine W_false rfl ?_))
    skip
    refine W_region rfl ?_
    refine WL_is (X_move rfl rfl) rfl rfl rfl ?_
    refine WL_is (X_assign rfl rfl) rfl rfl rfl ?_
    (repeat (first | refine WL_nil ?_ | refine Then_normal ?_ | refine W_ret ?_))
    exact Body_end rfl rfl rfl (SubR.refl _) rfl
structure NX where
  j : Nat
  i : Nat
  L : List (Int × Int)
  h : PH
theorem keepN_succ {q : List (Int × Int)} {p : Int × Int → Bool} {j : Nat} (hj : j < q.length) : (q.take (j + 1)).filter (fun x => !p x) = (q.take j).filter (fun x => !p x) ++ (if p q[j] then [] else [q[j]]) := by
  rw [List.take_succ_eq_append_getElem hj, List.filter_append]
  congr 1
  cases hp : p q[j] <;> simp [hp]
theorem keepN_fst {q : List (Int × Int)} {p : Int × Int → Bool} {j : Nat} (hj : j ≤ fstBy q p) : (q.take j).filter (fun x => !p x) = q.take j := by
  rw [List.filter_eq_self]
  intro x hx
  obtain ⟨i, hi, rfl⟩ := List.getElem_of_mem hx
  rw [List.getElem_take]
  simp only [List.length_take] at hi
  rw [fstBy_before (p := p) (q := q) (by omega) (by omega)]; rfl
set_option maxHeartbeats 4000000 in
theorem deleteFuncN_fn (h : PH) (q : List (Int × Int)) (a : Option Addr) (cap : Nat) (hl : q.length ≤ 100000) (f : FuncId) (fn : Func) (ca : List Value) (p : Int × Int → Bool) (hfn : Try.prog.funcs[f]? = some fn) (hcb : callable fn = true)
    (hcl : ∀ i (hi : i < q.length) h', le h h' → Does Try.prog f ([.agg #[.int .u16 q[i].1, .int .u8 q[i].2]] ++ ca) [] h' (Ret fun r _ _ => r = .bool (p q[i]))) :
    Does Try.prog 53 [.slice a q.length cap, .func (.func f) #[] ca.toArray] [rowL encN (.slice a q.length cap) 43 2 q] h
      (Ret fun r R' _ => R' = [rowL encN r 43 2 (q.filter fun x => !p x)]) := by
  have hix : Does Try.prog 37 [.slice a q.length cap, .func (.func f) #[] ca.toArray] [rowL encN (.slice a q.length cap) 43 2 q] h (Ret fun r R' _ => r = .int .i64 (idxV q p) ∧ R' = [rowL encN (.slice a q.length cap) 43 2 q]) := by
    refine (Does.borrow (A := fun r R1 => r = .int .i64 (idxV q p) ∧ R1 = []) fun g hg hle => ?_).wkn fun v R' h' _ ⟨R1, e1, e2, e3⟩ => ⟨e2, by rw [e1, e3]; rfl⟩
    have hr := stars_one.1 hg
    exact indexFuncN_fn _ q _ (Sl_of_row hr hle (lenN _)) (by omega) f fn ca p hfn hcb fun i hi h' hl' => hcl i hi h' ((le_un_left _ _).trans hl')
  refine Does_of_W Try.func53 rfl (n := 42) rfl rfl (by simp only [argE, Nat.reduceAdd] <;> rfl) ?_
  (repeat (first | refine W_seq ?_))
  skip
  refine W_region rfl ?_
  refine WL_is (X_assign rfl rfl) rfl rfl rfl ?_
  (repeat (first | refine WL_nil ?_ | refine Then_normal ?_ | refine W_seq ?_))
  skip
  refine W_region rfl ?_
  refine WL_is (X_move rfl rfl) rfl rfl rfl ?_
  refine WL_is (X_move rfl rfl) rfl rfl rfl ?_
  refine WL_callR [_] [] rfl rfl rfl Try.func37 rfl rfl rfl rfl (.refl _) hix ?_
  rintro r _ h2 hl2 ⟨rfl, rfl⟩
  simp only [List.append_nil]
  by_cases hf : fstBy q p < q.length
  · have hI : idxV q p = (fstBy q p : Int) := if_pos hf
    rw [hI]
    have hne : ((fstBy q p : Nat) : Int) ≠ -1 := by omega
    refine WL_updE (UpdE.shapePos 0 rfl (by omega)) ?_
    rintro _ h2 - ⟨rfl, rfl, rb, rfl⟩
    refine WL_is (X_assign rfl rfl) rfl rfl rfl ?_
    (repeat (first | refine WL_nil ?_ | refine Then_normal ?_ | refine W_seq ?_))
    skip
    refine W_region rfl ?_
    refine WL_is (X_move rfl rfl) rfl rfl rfl ?_
    refine WL_is (X_eql_f rfl rfl rfl (by omega)) rfl rfl rfl ?_
    (repeat (first | refine WL_nil ?_ | refine Then_normal ?_ | refine W_seq ?_ | refine W_skip ?_ | refine W_false rfl ?_))
    skip
    refine W_region rfl ?_
    refine WL_is (X_move rfl rfl) rfl rfl rfl ?_
    refine WL_is (X_addW rfl rfl rfl (by exact wrap_i64_in (by omega) (by omega))) rfl rfl rfl ?_
    refine WL_is (X_assign rfl rfl) rfl rfl rfl ?_
    (repeat (first | refine WL_nil ?_ | refine Then_normal ?_ | refine W_block ?_))
    refine W_loop (X := NX) (L := fun x => ⟨[(6, .int .i64 (x.j : Int)), (5, .int .i64 (x.i : Int)), (0, .slice (some ⟨rb, 0, none⟩) q.length cap), (1, .func (.func f) #[] ca.toArray)], [], [rowL encN (.slice (some ⟨rb, 0, none⟩) q.length cap) 43 2 x.L], x.h⟩)
      (p := fun x => x.j ≤ q.length ∧ x.i < x.j ∧ x.L.length = q.length ∧ x.L.take x.i = (q.take x.j).filter (fun y => !p y) ∧ x.L.drop x.j = q.drop x.j ∧ le h x.h) (μ := fun x => q.length - x.j) ⟨fstBy q p + 1, fstBy q p, q, h2⟩ ⟨(by repeat (first | exact SubE_nil | refine SubE_cons rfl ?_)), rfl, SubR.refl _, rfl⟩ ⟨by dsimp only; omega, by dsimp only; omega, rfl, ?_, rfl, hl2⟩ ?_
    · dsimp only
      rw [keepN_succ hf, keepN_fst (Nat.le_refl _), if_pos (fstBy_at hf), List.append_nil]
    · rintro ⟨j, i, L, h3⟩ ⟨hj, hij, hL, htk, hdr, hl3⟩
      dsimp only at hj hij hL htk hdr hl3 ⊢
      by_cases hlt : j < q.length
      · have hLj : L[j] = q[j] := by
          have h1 : (L.drop j)[0]? = (q.drop j)[0]? := by rw [hdr]
          simpa [hlt, hL] using h1
        have hc := hcl j hlt h3 hl3
        have hks := keepN_succ (p := p) hlt
        rw [← hLj] at hc hks
        (repeat (first | refine W_seq ?_))
        refine W_region rfl ?_
        refine WL_is (X_move rfl rfl) rfl rfl rfl ?_
        refine WL_is (X_move rfl rfl) rfl rfl rfl ?_
        refine WL_is (X_len rfl rfl rfl) rfl rfl rfl ?_
        refine WL_is (X_lss_t rfl rfl rfl (by omega)) rfl rfl rfl ?_
        (repeat (first | refine WL_nil ?_ | refine Then_normal ?_ | refine W_seq ?_ | refine W_skip ?_ | refine W_block ?_ | refine W_true rfl ?_))
        skip
        refine W_region rfl ?_
        refine WL_is (X_move rfl rfl) rfl rfl rfl ?_
        refine WL_is (X_move rfl rfl) rfl rfl rfl ?_
        refine WL_is (X_index_row rfl rfl (by exact idx0) rfl rfl rfl (by omega)) rfl rfl rfl ?_
        refine WL_is (X_loadA_spot rfl rfl (by exact idx0) (by omega) rfl rfl rfl (by omega) rfl) rfl rfl rfl ?_
        (refine WL_alloc rfl rfl rfl rfl rfl rfl ?_; intro b_)
        refine WL_store rfl rfl rfl (by exact idx0) rfl rfl rfl rfl rfl rfl rfl rfl rfl ?_
        (repeat (first | refine WL_nil ?_ | refine Then_normal ?_ | refine W_seq ?_))
        skip
        refine W_region rfl ?_
        refine WL_is (X_move rfl rfl) rfl rfl rfl ?_
        refine WL_is (X_loadA rfl rfl (by exact idx0) rfl rfl rfl) rfl rfl rfl ?_
        cases he : p L[j] with
        | true =>
          rw [he] at hc hks
          rw [if_pos rfl, List.append_nil] at hks
          refine WL_is (X_callv rfl rfl rfl hfn hcb hc) rfl rfl rfl ?_
          refine WL_is (X_not rfl rfl) rfl rfl rfl ?_
          (repeat (first | refine WL_nil ?_ | refine Then_normal ?_ | refine W_skip ?_ | refine inBlk_normal ?_ | refine W_false rfl ?_))
          skip
          refine W_region rfl ?_
          refine WL_is (X_move rfl rfl) rfl rfl rfl ?_
          refine WL_is (X_addW rfl rfl rfl (by exact wrap_i64_in (by omega) (by omega))) rfl rfl rfl ?_
          refine WL_is (X_assign rfl rfl) rfl rfl rfl ?_
          (repeat (first | refine WL_nil ?_ | refine Then_normal ?_))
          refine ⟨⟨j + 1, i, L, h3⟩, ⟨(by repeat (first | exact SubE_nil | refine SubE_cons rfl ?_)), rfl, SubR.skip _ (SubR.refl _), rfl⟩, ⟨by dsimp only; omega, by dsimp only; omega, hL, by dsimp only; rw [htk, hks], ?_, hl3⟩, by dsimp only; omega⟩
          dsimp only
          rw [← List.drop_drop, ← List.drop_drop, hdr]
        | false =>
          rw [he] at hc hks
          rw [if_neg (by decide)] at hks
          refine WL_is (X_callv rfl rfl rfl hfn hcb hc) rfl rfl rfl ?_
          refine WL_is (X_not rfl rfl) rfl rfl rfl ?_
          (repeat (first | refine WL_nil ?_ | refine Then_normal ?_ | refine W_seq ?_ | refine W_true rfl ?_))
          skip
          refine W_region rfl ?_
          refine WL_is (X_move rfl rfl) rfl rfl rfl ?_
          refine WL_is (X_move rfl rfl) rfl rfl rfl ?_
          refine WL_is (X_loadA rfl rfl (by exact idx0) rfl rfl rfl) rfl rfl rfl ?_
          refine WL_is (X_index_row rfl rfl (by exact idx1) rfl rfl rfl (by omega)) rfl rfl rfl ?_
          refine WL_store_spot rfl rfl rfl (by exact idx1) (by omega) rfl rfl rfl rfl rfl (by omega) rfl rfl rfl rfl ?_
          (repeat (first | refine WL_nil ?_ | refine Then_normal ?_))
          skip
          refine W_region rfl ?_
          refine WL_is (X_move rfl rfl) rfl rfl rfl ?_
          refine WL_is (X_addW rfl rfl rfl (by exact wrap_i64_in (by omega) (by omega))) rfl rfl rfl ?_
          refine WL_is (X_assign rfl rfl) rfl rfl rfl ?_
          (repeat (first | refine WL_nil ?_ | refine Then_normal ?_ | refine inBlk_normal ?_))
          skip
          refine W_region rfl ?_
          refine WL_is (X_move rfl rfl) rfl rfl rfl ?_
          refine WL_is (X_addW rfl rfl rfl (by exact wrap_i64_in (by omega) (by omega))) rfl rfl rfl ?_
          refine WL_is (X_assign rfl rfl) rfl rfl rfl ?_
          (repeat (first | refine WL_nil ?_ | refine Then_normal ?_))
          refine ⟨⟨j + 1, i + 1, L.set i L[j], h3⟩, ⟨(by repeat (first | exact SubE_nil | refine SubE_cons rfl ?_)), rfl, SubR.skip _ (SubR.refl _), rfl⟩, ⟨by dsimp only; omega, by dsimp only; omega, by simpa using hL, ?_, ?_, hl3⟩, by dsimp only; omega⟩
          · dsimp only
            rw [hks, ← htk, List.take_set, List.take_succ_eq_append_getElem (by omega), List.set_append_right _ _ (by simp; omega)]
            have : i - (L.take i).length = 0 := by simp; omega
            rw [this]; rfl
          · dsimp only
            rw [List.drop_set_of_lt (by omega), ← List.drop_drop, ← List.drop_drop, hdr]
      · have hje : j = q.length := by omega
        subst hje
        rw [List.take_length] at htk
        have hik : i = (q.filter fun y => !p y).length := by rw [← htk]; simp; omega
        refine W_updE (UpdE.rowblk 0 rfl (by omega)) ?_
        rintro _ h3 - ⟨rfl, rb', cap', c, e1, hmc, hcl', hct, hcx, rfl⟩
        simp only [Value.slice.injEq, Option.some.injEq, Addr.mk.injEq] at e1
        obtain ⟨⟨e1, -, -⟩, -, e3⟩ := e1
        subst e1; subst e3
        simp only [List.set_cons_zero]
        (repeat (first | refine W_seq ?_))
        refine W_region rfl ?_
        refine WL_is (X_move rfl rfl) rfl rfl rfl ?_
        refine WL_is (X_move rfl rfl) rfl rfl rfl ?_
        refine WL_is (X_len rfl rfl rfl) rfl rfl rfl ?_
        refine WL_is (X_lss_f rfl rfl rfl (by omega)) rfl rfl rfl ?_
        (repeat (first | refine WL_nil ?_ | refine Then_normal ?_ | refine W_seq ?_ | refine W_exit ?_ | refine Then_exit ?_ | refine inBlk_here ?_ | refine W_false rfl ?_))
        skip
        refine W_region rfl ?_
        refine WL_is (X_move rfl rfl) rfl rfl rfl ?_
        refine WL_is (X_move rfl rfl) rfl rfl rfl ?_
        refine WL_is (X_sliceLo (sz := 2) rfl rfl rfl rfl rfl (by omega) (by omega)) rfl rfl rfl ?_
        refine WL_clearA (zs := [.int .u16 0, .int .u8 0]) rfl rfl rfl rfl rfl rfl rfl (by omega) idx0 (by simp only [List.length_cons, List.length_nil]; omega) rfl rfl ?_
        intro zz hzz
        simp only [List.length_cons, List.length_nil] at hzz
        simp only [List.set_cons_zero]
        (repeat (first | refine WL_nil ?_ | refine Then_normal ?_ | refine W_seq ?_))
        refine W_region rfl ?_
        refine WL_is (X_move rfl rfl) rfl rfl rfl ?_
        refine WL_is (X_move rfl rfl) rfl rfl rfl ?_
        refine WL_is (X_sliceHi (sz := 2) rfl rfl rfl rfl rfl (by omega)) rfl rfl rfl ?_
        refine WL_is (X_assign rfl rfl) rfl rfl rfl ?_
        (repeat (first | refine WL_nil ?_ | refine Then_normal ?_ | refine W_ret ?_))
        refine Body_vals (.cons (.tmp rfl) .nil) rfl ?_
        rw [hik] at hzz ⊢
        refine UpdE.of (Upd.blkrow (cap := cap) (m := (q.filter fun y => !p y).length) (sz := 2) (xs := (q.filter fun y => !p y).flatMap encN) 0 rfl (by omega) (by rw [wr_length]; exact hcl') ?_) rfl
        have e : (L.take i).length = i := by simp; omega
        rw [wr_take (by omega), ← htk, ← take_flat L (lenN _), e, ← hct, List.take_take, Nat.min_eq_left (by omega)]
  · have hI : idxV q p = -1 := if_neg hf
    rw [hI]
    refine WL_is (X_assign rfl rfl) rfl rfl rfl ?_
    (repeat (first | refine WL_nil ?_ | refine Then_normal ?_ | refine W_seq ?_))
    skip
    refine W_region rfl ?_
    refine WL_is (X_move rfl rfl) rfl rfl rfl ?_
    refine WL_is (X_eql_t rfl rfl rfl (by omega)) rfl rfl rfl ?_
    (repeat (first | refine WL_nil ?_ | refine Then_normal ?_ | refine W_seq ?_ | refine W_true rfl ?_))
    skip
    refine W_region rfl ?_
    refine WL_is (X_move rfl rfl) rfl rfl rfl ?_
    refine WL_is (X_assign rfl rfl) rfl rfl rfl ?_
    (repeat (first | refine WL_nil ?_ | refine Then_normal ?_ | refine W_ret ?_ | refine Then_ret ?_))
    refine Body_end rfl rfl rfl (SubR.refl _) ?_
    have hle := fstBy_le q p
    have := keepN_fst (q := q) (p := p) (j := q.length) (by omega)
    rw [List.take_length] at this
    rw [this]
end Go.Proofs.Ytjampjbhaekjbaa
