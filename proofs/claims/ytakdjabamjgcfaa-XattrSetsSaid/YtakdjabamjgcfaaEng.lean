/- The engine: partial heaps, walks, contracts: a program logic over the model, that speaks of no program. -/
import Derived.WalkKit
import Derived.CallsIn
import Derived.OrdersIn
import Derived.LoopNIn
import Derived.Sort.LoopGhostIn
import Derived.Deep.LoopGhost
import Derived.Laws.BitsAllLaws
/- Engine, part 1: partial heaps, resources, and what a world holds of them. It speaks of no program. -/
namespace Go.Par
open Go
theorem pwk {α : Type} {R S : α → α → Prop} {l : List α} (h : l.Pairwise R) (k : ∀ {a b : α}, R a b → S a b) : l.Pairwise S :=
  List.pairwise_iff_getElem.2 fun i j hi hj hij => k (List.pairwise_iff_getElem.1 h i j hi hj hij)
theorem orwk {a b c : Prop} (h : a ∨ b) (k : b → c) : a ∨ c := h.elim .inl fun h => .inr (k h)

/-- A partial heap. -/
abbrev PH := Nat → Option Obj

namespace PH
def none_ : PH := fun _ => none
def one (b : Nat) (o : Obj) : PH := fun b' => if b' = b then some o else none
def un (g f : PH) : PH := fun b => match g b with | some o => some o | none => f b
def dj (g f : PH) : Prop := ∀ b, g b = none ∨ f b = none
def le (g f : PH) : Prop := ∀ b o, g b = some o → f b = some o
def inW (g : PH) (w : World) : Prop := ∀ b o, g b = some o → w.heap[b]? = some o

theorem le.refl (g : PH) : le g g := fun _ _ h => h
theorem le.trans {g f e : PH} (h : le g f) (k : le f e) : le g e := fun b o x => k b o (h b o x)
theorem le_un_left (g f : PH) : le g (un g f) := fun b o h => by simp [un, h]
theorem le_un_right {g f : PH} (h : dj g f) : le f (un g f) := fun b o hb => by
  rcases h b with h | h
  · simp [un, h, hb]
  · rw [h] at hb; cases hb
theorem dj.symm {g f : PH} (h : dj g f) : dj f g := fun b => (h b).symm
theorem dj_none_left (f : PH) : dj none_ f := fun _ => .inl rfl
theorem dj_none_right (f : PH) : dj f none_ := fun _ => .inr rfl
theorem un_none_left (f : PH) : un none_ f = f := by funext b; simp [un, none_]
theorem un_none_right (f : PH) : un f none_ = f := by funext b; simp only [un, none_]; split <;> simp_all
theorem un_assoc (a b c : PH) : un (un a b) c = un a (un b c) := by
  funext x; simp only [un]; cases a x <;> simp
theorem un_comm {a b : PH} (h : dj a b) : un a b = un b a := by
  funext x; simp only [un]
  rcases h x with h | h <;> simp only [h]
  · cases b x <;> rfl
  · cases a x <;> rfl
theorem un_eq_none {a b : PH} {x : Nat} : un a b x = none ↔ a x = none ∧ b x = none := by
  simp only [un]; cases a x <;> simp
theorem dj_un_left {a b c : PH} : dj (un a b) c ↔ dj a c ∧ dj b c := by
  constructor
  · intro h
    constructor <;> intro x <;> rcases h x with h | h
    · exact .inl (un_eq_none.1 h).1
    · exact .inr h
    · exact .inl (un_eq_none.1 h).2
    · exact .inr h
  · rintro ⟨h, k⟩ x
    rcases h x with h | h
    · rcases k x with k | k
      · exact .inl (un_eq_none.2 ⟨h, k⟩)
      · exact .inr k
    · exact .inr h
theorem dj_un_right {a b c : PH} : dj a (un b c) ↔ dj a b ∧ dj a c := by
  constructor
  · intro h; have := dj_un_left.1 h.symm; exact ⟨this.1.symm, this.2.symm⟩
  · rintro ⟨h, k⟩; exact (dj_un_left.2 ⟨h.symm, k.symm⟩).symm
theorem inW_un {a b : PH} {w : World} (ha : inW a w) (hb : inW b w) : inW (un a b) w := fun x o h => by
  simp only [un] at h
  cases hx : a x with
  | none => rw [hx] at h; exact hb x o h
  | some o' => rw [hx] at h; simp at h; exact h ▸ ha x o' hx
theorem inW_le {a b : PH} {w : World} (h : le a b) (hb : inW b w) : inW a w := fun x o k => hb x o (h x o k)
theorem le_un {a b c : PH} (h : le a c) (k : le b c) : le (un a b) c := fun x o e => by
  simp only [un] at e
  cases hx : a x with
  | none => rw [hx] at e; exact k x o e
  | some o' => rw [hx] at e; simp at e; exact e ▸ h x o' hx
theorem dj_le {a b c : PH} (h : le a b) (k : dj b c) : dj a c := fun x => by
  rcases k x with k | k
  · cases hx : a x with
    | none => exact .inl rfl
    | some o => rw [h x o hx] at k; cases k
  · exact .inr k
theorem inW_lt {g : PH} {w : World} (h : inW g w) {b : Nat} {o : Obj} (hb : g b = some o) : b < w.heap.size := by
  have := h b o hb
  rcases Nat.lt_or_ge b w.heap.size with h | h
  · exact h
  · simp [Array.getElem?_eq_none h] at this
theorem inW_fresh {g : PH} {w : World} (h : inW g w) {b : Nat} (hb : w.heap.size ≤ b) : g b = none := by
  cases hx : g b with
  | none => rfl
  | some o => have := inW_lt h hx; omega
theorem dj_one_fresh {g : PH} {w : World} (h : inW g w) (o : Obj) : dj (one w.heap.size o) g := fun x => by
  by_cases e : x = w.heap.size
  · exact .inr (e ▸ inW_fresh h (Nat.le_refl _))
  · exact .inl (by simp [one, e])
theorem le_of_eq_un {h h0 k : PH} (e : h = un h0 k) : le h0 h := e ▸ le_un_left h0 k
/-- What is said of less is a union, too. -/
theorem le_split {h0 h k : PH} (h1 : le h0 h) (h2 : le h (un h0 k)) : ∃ k', h = un h0 k' ∧ le k' k := by
  refine ⟨fun b => match h0 b with | some _ => none | none => h b, ?_, ?_⟩
  · funext b
    simp only [un]
    cases hb : h0 b with
    | none => simp
    | some o => simp [h1 b o hb]
  · intro b o hb
    cases hb0 : h0 b with
    | some o' => simp [hb0] at hb
    | none =>
      simp only [hb0] at hb
      have := h2 b o hb
      simp [un, hb0] at this
      exact this
end PH
open PH

/-- A resource: a claim on a partial heap, which it fills. -/
abbrev SL := PH → Prop

/-- Resources side by side, on heaps that do not meet. -/
def stars : List SL → PH → Prop
  | [], g => g = none_
  | r :: rs, g => ∃ g1 g2, g = un g1 g2 ∧ dj g1 g2 ∧ r g1 ∧ stars rs g2

theorem stars_append {R S : List SL} {g : PH} : stars (R ++ S) g ↔ ∃ g1 g2, g = un g1 g2 ∧ dj g1 g2 ∧ stars R g1 ∧ stars S g2 := by
  induction R generalizing g with
  | nil =>
    constructor
    · intro h; exact ⟨none_, g, (un_none_left g).symm, dj_none_left g, rfl, h⟩
    · rintro ⟨g1, g2, rfl, _, h1, h2⟩
      simp only [stars] at h1; subst h1
      rw [un_none_left]; exact h2
  | cons r R ih =>
    simp only [List.cons_append, stars]
    constructor
    · rintro ⟨a, b, rfl, hd, ha, hb⟩
      obtain ⟨c, d, rfl, hd2, hc, hd3⟩ := ih.1 hb
      have := dj_un_right.1 hd
      exact ⟨un a c, d, (un_assoc a c d).symm, dj_un_left.2 ⟨this.2, hd2⟩, ⟨a, c, rfl, this.1, ha, hc⟩, hd3⟩
    · rintro ⟨g1, g2, rfl, hd, ⟨a, c, rfl, hac, ha, hc⟩, h2⟩
      have := dj_un_left.1 hd
      exact ⟨a, un c g2, un_assoc a c g2, dj_un_right.2 ⟨hac, this.1⟩, ha, ih.2 ⟨c, g2, rfl, this.2, hc, h2⟩⟩

theorem stars_swap {R S : List SL} {g : PH} (h : stars (R ++ S) g) : stars (S ++ R) g := by
  obtain ⟨a, b, rfl, hd, ha, hb⟩ := stars_append.1 h
  exact stars_append.2 ⟨b, a, un_comm hd, hd.symm, hb, ha⟩

theorem stars_one {r : SL} {g : PH} : stars [r] g ↔ r g := by
  simp only [stars]
  constructor
  · rintro ⟨a, b, rfl, _, ha, rfl⟩; rw [un_none_right]; exact ha
  · intro h; exact ⟨g, none_, (un_none_right g).symm, dj_none_right g, h, rfl⟩

/-- One resource taken out of the row; whatever is laid in its place. -/
theorem stars_get {R : List SL} {i : Nat} {r : SL} {g : PH} (hi : R[i]? = some r) (h : stars R g) :
    ∃ a b, g = un a b ∧ dj a b ∧ r a ∧ (∀ r' a', r' a' → dj a' b → stars (R.set i r') (un a' b)) ∧ stars (R.eraseIdx i) b := by
  induction R generalizing i g with
  | nil => simp at hi
  | cons x R ih =>
    obtain ⟨a, b, rfl, hd, ha, hb⟩ := h
    cases i with
    | zero =>
      simp at hi; subst hi
      exact ⟨a, b, rfl, hd, ha, fun r' a' h' hd' => ⟨a', b, rfl, hd', h', hb⟩, by simpa using hb⟩
    | succ i =>
      simp at hi
      obtain ⟨c, d, rfl, hcd, hc, hset, her⟩ := ih hi hb
      have hac := dj_un_right.1 hd
      refine ⟨c, un a d, ?_, dj_un_right.2 ⟨hac.1.symm, hcd⟩, hc, ?_, ?_⟩
      · rw [← un_assoc, un_comm hac.1, un_assoc]
      · intro r' a' h' hd'
        have := dj_un_right.1 hd'
        refine ⟨a, un a' d, ?_, dj_un_right.2 ⟨this.1.symm, hac.2⟩, ha, ?_⟩
        · rw [← un_assoc, un_comm this.1, un_assoc]
        · exact hset r' a' h' this.2
      · exact ⟨a, d, rfl, hac.2, ha, her⟩

/-- A resource taken to the front. -/
theorem stars_front {R : List SL} {i : Nat} {r : SL} {g : PH} (hi : R[i]? = some r) (h : stars R g) : stars (r :: R.eraseIdx i) g := by
  obtain ⟨a, b, rfl, hd, ha, _, her⟩ := stars_get hi h
  exact ⟨a, b, rfl, hd, ha, her⟩

theorem stars_perm {R S : List SL} (p : R.Perm S) : ∀ {g : PH}, stars R g → stars S g := by
  induction p with
  | nil => exact fun h => h
  | cons x _ ih => rintro g ⟨a, b, e, hd, ha, hb⟩; exact ⟨a, b, e, hd, ha, ih hb⟩
  | swap x y l =>
    rintro g ⟨a, b, rfl, hd, ha, ⟨c, d, rfl, hd2, hc, hdd⟩⟩
    have := dj_un_right.1 hd
    exact ⟨c, un a d, by rw [← un_assoc, un_comm this.1, un_assoc], dj_un_right.2 ⟨this.1.symm, hd2⟩, hc, a, d, rfl, this.2, ha, hdd⟩
  | trans _ _ i1 i2 => exact fun h => i2 (i1 h)

/-- A block that nobody else has. -/
def obj (b : Nat) (o : Obj) : SL := fun g => g = one b o
/-- A row of cells that nobody else has, none of them frozen. -/
abbrev blk (b : Nat) (c : List Value) (t : TypeId) : SL := obj b (.cells c.toArray t (0, 0))

/-- The world, its resources 'R', what is known for good 'h', ahead of what the caller keeps 'f'; of 'f' the callee was told 'h0'. -/
def St (κ : World) (h0 f : PH) (R : List SL) (h : PH) (w : World) : Prop :=
  (w.os = κ.os ∧ w.tape = κ.tape ∧ w.output = κ.output ∧ κ.heap.size ≤ w.heap.size) ∧
  ∃ g k, h = un h0 k ∧ stars R g ∧ dj g f ∧ dj k f ∧ dj g k ∧ inW g w ∧ inW k w ∧ inW f w

theorem St.h_le {κ : World} {h0 f : PH} {R : List SL} {h : PH} {w : World} (s : St κ h0 f R h w) : le h0 h := by
  obtain ⟨_, g, k, rfl, _⟩ := s; exact le_un_left _ _
theorem St.h_in {κ : World} {h0 f : PH} (hf : le h0 f) {R : List SL} {h : PH} {w : World} (s : St κ h0 f R h w) : inW h w := by
  obtain ⟨_, g, k, rfl, _, _, _, _, _, hk, hw⟩ := s; exact inW_un (inW_le hf hw) hk
theorem St.perm {κ : World} {h0 f : PH} {R S : List SL} {h : PH} {w : World} (p : R.Perm S) (s : St κ h0 f R h w) : St κ h0 f S h w := by
  obtain ⟨a, g, k, e, hr, rest⟩ := s; exact ⟨a, g, k, e, stars_perm p hr, rest⟩
/-- What is known may be forgotten, but what was told. -/
theorem St.weaken {κ : World} {h0 f : PH} {R : List SL} {h h' : PH} {w : World} (h1 : le h0 h') (h2 : le h' h) (s : St κ h0 f R h w) : St κ h0 f R h' w := by
  obtain ⟨a, g, k, rfl, hr, hgf, hkf, hgk, hg, hk, hw⟩ := s
  obtain ⟨k', rfl, hkk⟩ := le_split h1 h2
  exact ⟨a, g, k', rfl, hr, hgf, dj_le hkk hkf, (dj_le hkk hgk.symm).symm, hg, inW_le hkk hk, hw⟩
/-- A resource may be let go of. -/
theorem St.drop {κ : World} {h0 f : PH} {R : List SL} {i : Nat} {h : PH} {w : World} (s : St κ h0 f R h w) : St κ h0 f (R.eraseIdx i) h w := by
  cases hi : R[i]? with
  | none =>
    rw [List.eraseIdx_of_length_le (by simpa using hi)]; exact s
  | some r =>
    obtain ⟨a, g, k, rfl, hr, hgf, hkf, hgk, hg, hk, hw⟩ := s
    obtain ⟨x, y, rfl, hd, _, _, her⟩ := stars_get hi hr
    exact ⟨a, y, k, rfl, her, (dj_un_left.1 hgf).2, hkf, (dj_un_left.1 hgk).2, inW_le (le_un_right hd) hg, hk, hw⟩

section
variable {κ : World} {h0 f : PH} {R : List SL} {h : PH} {w w' : World}

/-- A world with the same blocks, and more. -/
theorem St.same (s : St κ h0 f R h w) (h1 : w'.os = w.os) (h2 : w'.tape = w.tape) (h3 : w'.output = w.output) (h5 : w.heap.size ≤ w'.heap.size)
    (h4 : ∀ (b : Nat) (o : Obj), w.heap[b]? = some o → w'.heap[b]? = some o) : St κ h0 f R h w' := by
  obtain ⟨⟨a1, a2, a3, a4⟩, g, k, e, hr, hgf, hkf, hgk, hg, hk, hw⟩ := s
  exact ⟨⟨h1.trans a1, h2.trans a2, h3.trans a3, Nat.le_trans a4 h5⟩, g, k, e, hr, hgf, hkf, hgk, fun b o x => h4 b o (hg b o x), fun b o x => h4 b o (hk b o x), fun b o x => h4 b o (hw b o x)⟩
theorem St.drawn (s : St κ h0 f R h w) (n : Nat) : St κ h0 f R h { w with drawn := n } :=
  s.same rfl rfl rfl (Nat.le_refl _) fun _ _ x => x

theorem push_get (w : World) (o : Obj) (b : Nat) (o' : Obj) (h : w.heap[b]? = some o') : (w.heap.push o)[b]? = some o' := by
  have hb : b < w.heap.size := by
    rcases Nat.lt_or_ge b w.heap.size with h' | h'
    · exact h'
    · simp [Array.getElem?_eq_none h'] at h
  rw [Array.getElem?_push, if_neg (by omega)]; exact h

/-- A new block, one's own. -/
theorem St.new (s : St κ h0 f R h w) (o : Obj) : St κ h0 f (obj w.heap.size o :: R) h { w with heap := w.heap.push o } := by
  have s' := s.same (w' := { w with heap := w.heap.push o }) rfl rfl rfl (by simp) (fun b o' x => push_get w o b o' x)
  obtain ⟨_, g, k, e, hr, hgf, hkf, hgk, hg, hk, hw⟩ := s
  obtain ⟨a, _⟩ := s'
  refine ⟨a, un (one w.heap.size o) g, k, e, ⟨one w.heap.size o, g, rfl, dj_one_fresh hg o, rfl, hr⟩, dj_un_left.2 ⟨dj_one_fresh hw o, hgf⟩, hkf, dj_un_left.2 ⟨dj_one_fresh hk o, hgk⟩, ?_, ?_, ?_⟩
  · refine inW_un ?_ (fun b o' x => push_get w o b o' (hg b o' x))
    intro b o' x
    simp only [one] at x
    split at x
    · rename_i hb; subst hb; simp at x; subst x; simp
    · cases x
  · exact fun b o' x => push_get w o b o' (hk b o' x)
  · exact fun b o' x => push_get w o b o' (hw b o' x)

/-- What one resource, a block, holds in the world. -/
theorem St.obj_at {i b : Nat} {o : Obj} (s : St κ h0 f R h w) (hi : R[i]? = some (obj b o)) : w.heap[b]? = some o := by
  obtain ⟨_, g, k, e, hr, hgf, hkf, hgk, hg, hk, hw⟩ := s
  obtain ⟨x, y, rfl, hd, hx, _, _⟩ := stars_get hi hr
  rw [show x = one b o from hx] at hg
  exact hg b o (by simp [un, one])

/-- A block, one's own, turned. -/
theorem St.turn {i b : Nat} {o o' : Obj} (s : St κ h0 f R h w) (hi : R[i]? = some (obj b o)) (hw' : w'.heap.size = w.heap.size)
    (h1 : w'.os = w.os) (h2 : w'.tape = w.tape) (h3 : w'.output = w.output) (hb : w'.heap[b]? = some o') (hne : ∀ b' : Nat, b' ≠ b → w'.heap[b']? = w.heap[b']?) :
    St κ h0 f (R.set i (obj b o')) h w' := by
  obtain ⟨⟨a1, a2, a3, a4⟩, g, k, e, hr, hgf, hkf, hgk, hg, hk, hwf⟩ := s
  obtain ⟨x, y, rfl, hd, hx, hset, _⟩ := stars_get hi hr
  have hx : x = one b o := hx
  subst hx
  have other : ∀ {z : PH}, dj (one b o) z → inW z w → inW z w' := fun hz hzw c oc hc => by
    have : c ≠ b := by
      intro e; subst e
      rcases hz c with h | h
      · simp [one] at h
      · rw [h] at hc; cases hc
    rw [hne c this]; exact hzw c oc hc
  have hsame : ∀ {z : PH}, dj (one b o) z → dj (one b o') z := fun hz c => by
    rcases hz c with h | h
    · left; simp only [one] at h ⊢; split at h <;> simp_all
    · exact .inr h
  have hgf' := dj_un_left.1 hgf
  have hgk' := dj_un_left.1 hgk
  refine ⟨⟨h1.trans a1, h2.trans a2, h3.trans a3, by omega⟩, un (one b o') y, k, e, hset _ _ rfl (hsame hd), dj_un_left.2 ⟨hsame hgf'.1, hgf'.2⟩, hkf, dj_un_left.2 ⟨hsame hgk'.1, hgk'.2⟩, ?_, other hgk'.1 hk, other hgf'.1 hwf⟩
  refine inW_un ?_ (other hd (inW_le (le_un_right hd) hg))
  intro c oc hc
  simp only [one] at hc
  split at hc
  · rename_i e; subst e; simp at hc; subst hc; exact hb
  · cases hc

/-- A block is given up to what is known for good. -/
theorem St.freeze {i b : Nat} {o : Obj} (s : St κ h0 f R h w) (hi : R[i]? = some (obj b o)) : St κ h0 f (R.eraseIdx i) (un h (one b o)) w := by
  obtain ⟨a, g, k, rfl, hr, hgf, hkf, hgk, hg, hk, hw⟩ := s
  obtain ⟨x, y, rfl, hd, hx, _, her⟩ := stars_get hi hr
  have hx : x = one b o := hx
  subst hx
  have hgf' := dj_un_left.1 hgf
  have hgk' := dj_un_left.1 hgk
  refine ⟨a, y, un k (one b o), un_assoc _ _ _, her, hgf'.2, dj_un_left.2 ⟨hkf, hgf'.1⟩, dj_un_right.2 ⟨hgk'.2, hd.symm⟩, inW_le (le_un_right hd) hg, inW_un hk (inW_le (le_un_left _ _) hg), hw⟩

/-- The call's side: some resources go with the call, the others are kept. -/
theorem St.lend {R1 R2 : List SL} (hf : le h0 f) (s : St κ h0 f (R1 ++ R2) h w) :
    ∃ f', le h f' ∧ St w h f' R1 h w ∧ ∀ R1' h' w', le h h' → St w h f' R1' h' w' → St κ h0 f (R1' ++ R2) h' w' := by
  obtain ⟨⟨a1, a2, a3, a4⟩, g, k, rfl, hr, hgf, hkf, hgk, hg, hk, hw⟩ := s
  obtain ⟨g1, g2, rfl, hd, hr1, hr2⟩ := stars_append.1 hr
  have hgf' := dj_un_left.1 hgf
  have hgk' := dj_un_left.1 hgk
  refine ⟨un (un f k) g2, ?_, ⟨⟨rfl, rfl, rfl, Nat.le_refl _⟩, g1, none_, (un_none_right _).symm, hr1, ?_, dj_none_left _, dj_none_right _, inW_le (le_un_left _ _) hg, fun b o h => by simp [none_] at h, ?_⟩, ?_⟩
  · exact (le_un (hf.trans (le_un_left f k)) (le_un_right hkf.symm)).trans (le_un_left _ _)
  · exact dj_un_right.2 ⟨dj_un_right.2 ⟨hgf'.1, hgk'.1⟩, hd⟩
  · exact inW_un (inW_un hw hk) (inW_le (le_un_right hd) hg)
  · rintro R1' h' w' hle ⟨⟨b1, b2, b3, b4⟩, g', k', rfl, hr', hgf2, hkf2, hgk2, hg2, hk2, hw2⟩
    have q1 := dj_un_right.1 hgf2
    have q2 := dj_un_right.1 q1.1
    have p1 := dj_un_right.1 hkf2
    have p2 := dj_un_right.1 p1.1
    have dg2 : dj (un f k) g2 := dj_un_left.2 ⟨hgf'.2.symm, hgk'.2.symm⟩
    refine ⟨⟨b1.trans a1, b2.trans a2, b3.trans a3, Nat.le_trans a4 b4⟩, un g' g2, un k k', (un_assoc _ _ _), stars_append.2 ⟨g', g2, rfl, q1.2, hr', hr2⟩, dj_un_left.2 ⟨q2.1, hgf'.2⟩, dj_un_left.2 ⟨hkf, p2.1⟩, ?_, inW_un hg2 (inW_le (le_un_right dg2) hw2), inW_un ?_ hk2, ?_⟩
    · exact dj_un_right.2 ⟨dj_un_left.2 ⟨q2.2, hgk'.2⟩, dj_un_left.2 ⟨hgk2, p1.2.symm⟩⟩
    · exact inW_le ((le_un_right hkf.symm).trans (le_un_left _ _)) hw2
    · exact inW_le ((le_un_left _ _).trans (le_un_left _ _)) hw2
end
end Go.Par

/- Engine, part 2: the state of a walk, functions' contracts, and the rules for a function's code. It speaks of no program. -/
namespace Go.Par
open Go PH

abbrev Env := List (Nat × Value)

/-- The slot's value, so far as it is known. -/
def lk : Env → Nat → Option Value
  | [], _ => none
  | (k, v) :: r, t => match Nat.beq k t with | true => some v | false => lk r t

def ev (E : Env) : Operand → Option Value
  | .tmp t => lk E t
  | .const v => some v
  | .global g => some (.pointer (some ⟨g, 0, none⟩))
  | .func f => some (.func (.func f) #[] #[])

def evs (E : Env) : List Operand → Option (List Value)
  | [] => some []
  | x :: xs => match ev E x with
    | some v => match evs E xs with
      | some vs => some (v :: vs)
      | none => none
    | none => none

def put (E : Env) : Option Tmp → Value → Env
  | some d, v => (d, v) :: E
  | none, _ => E

/-- The state of a walk: slots, what is deferred, resources, what is known for good. -/
structure S where
  E : Env
  D : List Deferred
  R : List SL
  h : PH

/-- In a round of loop 'l' this stands for what is deferred. -/
def rmk (l : Nat) : Deferred := { target := .collected l, args := #[undef] }
def roOf : List Deferred → Option Nat
  | [d] => match d.target with
    | .collected l => if d.args.size = 1 then some l else none
    | _ => none
  | _ => none
def dsOf (D : List Deferred) : List Deferred := if (roOf D).isSome then [] else D
/-- The fence that asks nothing, in a round or in none. -/
def fen (D : List Deferred) : Fence := { fn := fun _ => True, depth := none, alive := false, round := roOf D }
theorem fen_nil : fen [] = Fence.wide := rfl
theorem callsIn_fen {D : List Deferred} {n : Nat} {P : Program} {f : FuncId} {args : Array Value} {w : World} {R : Ending → World → Prop} (h : Calls P f args w R) : CallsIn (fen D) n P f args w R := (callsIn_wide (n := n)).2 h
theorem fen_depth {D : List Deferred} {p : Prop} : (fen D).depth.isSome = true → p := fun h => by simp [fen] at h
def EnvOk (n : Nat) (E : Env) (D : List Deferred) (a : Act) : Prop :=
  a.tmps.size = n ∧ a.defers = dsOf D ∧ ∀ t v, lk E t = some v → a.tmps[t]? = some v

theorem EnvOk.ev {n : Nat} {E : Env} {D : List Deferred} {a : Act} (h : EnvOk n E D a) {x : Operand} {v : Value} (hx : ev E x = some v) : a.eval x = v := by
  cases x with
  | tmp t =>
    have := h.2.2 t v hx
    simp [Act.eval, Array.getD_eq_getD_getElem?, this]
  | const u => simpa [Par.ev, Act.eval] using hx
  | global g => simpa [Par.ev, Act.eval] using hx
  | func f => simpa [Par.ev, Act.eval] using hx

theorem EnvOk.evs {n : Nat} {E : Env} {D : List Deferred} {a : Act} (h : EnvOk n E D a) : ∀ {xs : List Operand} {vs : List Value}, evs E xs = some vs → xs.map a.eval = vs
  | [], vs, hx => by simp [Par.evs] at hx; simp [hx]
  | x :: xs, vs, hx => by
    simp only [Par.evs] at hx
    split at hx
    · rename_i v hv
      split at hx
      · rename_i us hus
        simp at hx; subst hx
        simp [h.ev hv, h.evs hus]
      · cases hx
    · cases hx

theorem EnvOk.put {n : Nat} {E : Env} {D : List Deferred} {a : Act} (h : EnvOk n E D a) (dst : Option Tmp) (v : Value) (hd : ∀ d, dst = some d → d < n) :
    EnvOk n (put E dst v) D (a.put dst v) := by
  cases dst with
  | none => exact h
  | some d =>
    refine ⟨by simp [Act.put, h.1], by simp [Act.put, h.2.1], ?_⟩
    intro t u hl
    simp only [Par.put, lk] at hl
    simp only [Act.put]
    split at hl
    · rename_i he
      have : d = t := Nat.eq_of_beq_eq_true he
      subst this
      simp at hl; subst hl
      rw [Array.getElem?_setIfInBounds_self]
      simp [h.1, hd d rfl]
    · rename_i he
      have : d ≠ t := Nat.ne_of_beq_eq_false he
      rw [Array.getElem?_setIfInBounds_ne this]
      exact h.2.2 t u hl

/-- Less is known of the slots. -/
def SubE (E E1 : Env) : Prop := ∀ t v, lk E1 t = some v → lk E t = some v
theorem SubE.refl (E : Env) : SubE E E := fun _ _ h => h
theorem SubE_nil {E : Env} : SubE E [] := fun _ _ h => by simp [lk] at h
theorem SubE_cons {E E1 : Env} {t : Nat} {v : Value} (h : lk E t = some v) (r : SubE E E1) : SubE E ((t, v) :: E1) := fun u x k => by
  simp only [lk] at k
  split at k
  · rename_i he
    have : t = u := Nat.eq_of_beq_eq_true he
    subst this
    simp at k; subst k; exact h
  · exact r u x k
theorem EnvOk.sub {n : Nat} {E E1 : Env} {D : List Deferred} {a : Act} (h : EnvOk n E D a) (s : SubE E E1) : EnvOk n E1 D a :=
  ⟨h.1, h.2.1, fun t v k => h.2.2 t v (s t v k)⟩

/-- Resources let go. -/
def SubR (R R1 : List SL) : Prop := ∃ R2, R.Perm (R1 ++ R2)
theorem SubR.refl (R : List SL) : SubR R R := ⟨[], by simp⟩
theorem SubR.none (R : List SL) : SubR R [] := ⟨R, by simp⟩
theorem SubR.cons {R R1 : List SL} (r : SL) (h : SubR R R1) : SubR (r :: R) (r :: R1) := let ⟨R2, p⟩ := h; ⟨R2, p.cons r⟩
theorem SubR.skip {R R1 : List SL} (r : SL) (h : SubR R R1) : SubR (r :: R) R1 := let ⟨R2, p⟩ := h; ⟨r :: R2, (p.cons r).trans (List.perm_middle.symm)⟩
theorem SubR.of_perm {R R1 : List SL} (h : R.Perm R1) : SubR R R1 := ⟨[], by simpa using h⟩
theorem SubR.trans {R R1 R2 : List SL} (h : SubR R R1) (k : SubR R1 R2) : SubR R R2 := by
  obtain ⟨A, p⟩ := h
  obtain ⟨B, q⟩ := k
  exact ⟨B ++ A, p.trans ((q.append_right A).trans (by simp))⟩
theorem St.sub {κ : World} {h0 f : PH} {R R1 : List SL} {h : PH} {w : World} (s : St κ h0 f R h w) (hR : SubR R R1) : St κ h0 f R1 h w := by
  obtain ⟨R2, p⟩ := hR
  obtain ⟨a, g, k, rfl, hr, hgf, hkf, hgk, hg, hk, hw⟩ := s.perm p
  obtain ⟨x, y, rfl, hd, hx, _⟩ := stars_append.1 hr
  exact ⟨a, x, k, rfl, hx, (dj_un_left.1 hgf).1, hkf, (dj_un_left.1 hgk).1, inW_le (le_un_left _ _) hg, hk, hw⟩

structure Sub (s s1 : S) : Prop where
  e : SubE s.E s1.E
  d : s1.D = s.D
  r : SubR s.R s1.R
  h : s1.h = s.h
theorem Sub.refl (s : S) : Sub s s := ⟨SubE.refl _, rfl, SubR.refl _, rfl⟩

abbrev Post := Ending → List SL → PH → Prop
/-- It returns, so. -/
def Ret (K : Value → List SL → PH → Prop) : Post
  | .returned v, R, h => K v R h
  | _, _, _ => False

/-- THE CONTRACT of a function: called with these arguments, resources and knowledge it ends so; all else is kept. -/
def Does (P : Program) (f : FuncId) (args : List Value) (R : List SL) (h : PH) (K : Post) : Prop :=
  ∀ (f' : PH) (w : World), le h f' → St w h f' R h w →
    Calls P f args.toArray w fun e w' => e ≠ .outgrown ∧ ∃ R' h', le h h' ∧ St w h f' R' h' w' ∧ K e R' h'

theorem Does.mono {P : Program} {f : FuncId} {args : List Value} {R : List SL} {h : PH} {K K' : Post} (H : Does P f args R h K)
    (hk : ∀ e R' h', le h h' → K e R' h' → K' e R' h') : Does P f args R h K' := fun f' w hf hs =>
  (H f' w hf hs).mono fun _ _ ⟨he, R', h', hle, hs', hK⟩ => ⟨he, R', h', hle, hs', hk _ _ _ hle hK⟩

/-- A code's walk. -/
def W (P : Program) (n : Nat) (c : Code) (s : S) (Q : Exit → S → Prop) : Prop :=
  ∀ (κ : World) (h0 f : PH) (a : Act) (w : World), le h0 f → EnvOk n s.E s.D a → St κ h0 f s.R s.h w →
    c.wpIn (fen s.D) 0 P (fun e a' w' => e ≠ .outgrown ∧ ∃ s', EnvOk n s'.E s'.D a' ∧ (St κ h0 f s'.R s'.h w' ∧ roOf s'.D = roOf s.D) ∧ Q e s') a w

/-- Behind 'x' comes 'K'. -/
def Then (K : S → Prop) (Q : Exit → S → Prop) : Exit → S → Prop
  | .normal, s => K s
  | e, s => Q e s
def inBlk (id : Nat) (Q : Exit → S → Prop) : Exit → S → Prop
  | .exit j, s => if j = id then Q .normal s else Q (.exit j) s
  | e, s => Q e s

section
variable {P : Program} {n : Nat} {s : S} {Q : Exit → S → Prop}

theorem Then_normal {K : S → Prop} (h : K s) : Then K Q .normal s := h
theorem Then_ret {K : S → Prop} (h : Q .ret s) : Then K Q .ret s := h
theorem Then_exit {K : S → Prop} {i : Nat} (h : Q (.exit i) s) : Then K Q (.exit i) s := h
theorem Then_goto {K : S → Prop} {i : Nat} (h : Q (.goto i) s) : Then K Q (.goto i) s := h
theorem Then_panic {K : S → Prop} {ch : List PanicEntry} (h : Q (.panic ch) s) : Then K Q (.panic ch) s := h
theorem inBlk_normal {id : Nat} (h : Q .normal s) : inBlk id Q .normal s := h
theorem inBlk_ret {id : Nat} (h : Q .ret s) : inBlk id Q .ret s := h
theorem inBlk_goto {id i : Nat} (h : Q (.goto i) s) : inBlk id Q (.goto i) s := h
theorem inBlk_panic {id : Nat} {ch : List PanicEntry} (h : Q (.panic ch) s) : inBlk id Q (.panic ch) s := h
theorem inBlk_here {id : Nat} (h : Q .normal s) : inBlk id Q (.exit id) s := by simpa [inBlk] using h
theorem inBlk_out {id j : Nat} (hj : Nat.beq j id = false) (h : Q (.exit j) s) : inBlk id Q (.exit j) s := by
  have : j ≠ id := Nat.ne_of_beq_eq_false hj
  simpa [inBlk, this] using h

theorem W_weaken {c : Code} {s1 : S} (hs : Sub s s1) (h : W P n c s1 Q) : W P n c s Q := fun κ h0 f a w hf ha hw => by
  obtain ⟨e, d, r, hh⟩ := hs
  have := h κ h0 f a w hf (by rw [d]; exact ha.sub e) (by rw [hh]; exact hw.sub r)
  rw [d] at this
  exact this
theorem W_mono {c : Code} {Q' : Exit → S → Prop} (h : W P n c s Q') (hq : ∀ e s, Q' e s → Q e s) : W P n c s Q := fun κ h0 f a w hf ha hw =>
  wpIn_mono (h κ h0 f a w hf ha hw) fun _ _ _ ⟨he, s', h1, h2, h3⟩ => ⟨he, s', h1, h2, hq _ _ h3⟩
theorem W_skip (h : Q .normal s) : W P n .skip s Q := fun _ _ _ _ _ _ ha hw => wpIn_skip ⟨by simp, s, ha, ⟨hw, rfl⟩, h⟩
theorem W_label {l : Nat} (h : Q .normal s) : W P n (.label l) s Q := fun _ _ _ _ _ _ ha hw => wpIn_label ⟨by simp, s, ha, ⟨hw, rfl⟩, h⟩
theorem W_ret (h : Q .ret s) : W P n .ret s Q := fun _ _ _ _ _ _ ha hw => wpIn_ret ⟨by simp, s, ha, ⟨hw, rfl⟩, h⟩
theorem W_exit {id : Nat} (h : Q (.exit id) s) : W P n (.exit id) s Q := fun _ _ _ _ _ _ ha hw => wpIn_exit ⟨by simp, s, ha, ⟨hw, rfl⟩, h⟩
theorem W_goto {id : Nat} (h : Q (.goto id) s) : W P n (.goto id) s Q := fun _ _ _ _ _ _ ha hw => wpIn_goto ⟨by simp, s, ha, ⟨hw, rfl⟩, h⟩
theorem W_seq {x y : Code} (h : W P n x s (Then (fun s' => W P n y s' Q) Q)) : W P n (.seq x y) s Q := fun κ h0 f a w hf ha hw => by
  refine wpIn_seq (wpIn_mono (h κ h0 f a w hf ha hw) ?_)
  rintro e a' w' ⟨he, s', h1, h2, h3⟩
  cases e with
  | normal =>
    have := h3 κ h0 f a' w' hf h1 h2.1
    simp only [fen, h2.2] at this
    exact this
  | exit i => exact ⟨by simp, s', h1, h2, h3⟩
  | goto i => exact ⟨by simp, s', h1, h2, h3⟩
  | ret => exact ⟨by simp, s', h1, h2, h3⟩
  | panic c => exact ⟨by simp, s', h1, h2, h3⟩
  | outgrown => exact absurd rfl he
theorem W_cut {X : Type} {x y : Code} (L : X → S) (p : X → Prop) (h : W P n x s (Then (fun s' => ∃ i, Sub s' (L i) ∧ p i) Q)) (k : ∀ i, p i → W P n y (L i) Q) : W P n (.seq x y) s Q :=
  W_seq (W_mono h fun e s' h' => by
    cases e with
    | normal => obtain ⟨i, hs, hp⟩ := h'; exact W_weaken hs (k i hp)
    | _ => exact h')
theorem W_cond {c : Operand} {x y : Code} {t : Bool} (hc : ev s.E c = some (.bool t)) (h1 : t = true → W P n x s Q) (h2 : t = false → W P n y s Q) : W P n (.cond c x y) s Q :=
  fun κ h0 f a w hf ha hw => wpIn_cond_split (ha.ev hc) (fun e => h1 e κ h0 f a w hf ha hw) (fun e => h2 e κ h0 f a w hf ha hw)
theorem W_if {c : Operand} {x y : Code} {p : Prop} [Decidable p] (hc : ev s.E c = some (.bool (decide p))) (h1 : p → W P n x s Q) (h2 : ¬ p → W P n y s Q) : W P n (.cond c x y) s Q :=
  W_cond hc (fun e => h1 (of_decide_eq_true e)) (fun e => h2 (of_decide_eq_false e))
theorem W_ifn {c : Operand} {x y : Code} {p : Prop} [Decidable p] (hc : ev s.E c = some (.bool (!decide p))) (h1 : ¬ p → W P n x s Q) (h2 : p → W P n y s Q) : W P n (.cond c x y) s Q :=
  W_cond hc (fun e => h1 (by simpa using e)) (fun e => h2 (by simpa using e))
theorem W_true {c : Operand} {x y : Code} (hc : ev s.E c = some (.bool true)) (h1 : W P n x s Q) : W P n (.cond c x y) s Q :=
  W_cond hc (fun _ => h1) (fun e => by cases e)
theorem W_false {c : Operand} {x y : Code} (hc : ev s.E c = some (.bool false)) (h1 : W P n y s Q) : W P n (.cond c x y) s Q :=
  W_cond hc (fun e => by cases e) (fun _ => h1)
theorem W_block {id : Nat} {c : Code} (h : W P n c s (inBlk id Q)) : W P n (.block id c) s Q := fun κ h0 f a w hf ha hw => by
  refine wpIn_block (wpIn_mono (h κ h0 f a w hf ha hw) ?_)
  rintro e a' w' ⟨he, s', h1, h2, h3⟩
  cases e with
  | exit i =>
    simp only [Exit.inBlock, inBlk] at h3 ⊢
    split
    · rename_i hi; simp only [hi, if_true] at h3; exact ⟨by simp, s', h1, h2, h3⟩
    · rename_i hi; simp only [hi, if_false] at h3; exact ⟨by simp, s', h1, h2, h3⟩
  | normal => exact ⟨by simp, s', h1, h2, h3⟩
  | goto i => exact ⟨by simp, s', h1, h2, h3⟩
  | ret => exact ⟨by simp, s', h1, h2, h3⟩
  | panic c => exact ⟨by simp, s', h1, h2, h3⟩
  | outgrown => exact absurd rfl he
/-- A loop: 'x' says where it stands. -/
theorem W_loop {X : Type} {c : Code} (L : X → S) (p : X → Prop) (μ : X → Nat) (x0 : X) (hs : Sub s (L x0)) (hp : p x0)
    (round : ∀ x, p x → W P n c (L x) (Then (fun s' => ∃ x', Sub s' (L x') ∧ p x' ∧ μ x' < μ x) Q)) : W P n (.loop c) s Q := fun κ h0 f a w hf ha hw => by
  refine wpIn_loop_ghost (fun m a w => ∃ x, μ x = m ∧ p x ∧ EnvOk n (L x).E (L x).D a ∧ (St κ h0 f (L x).R (L x).h w ∧ roOf (L x).D = roOf s.D)) (μ x0)
    ⟨x0, rfl, hp, by rw [hs.d]; exact ha.sub hs.e, by rw [hs.h]; exact hw.sub hs.r, by rw [hs.d]⟩ ?_
  rintro m a w ⟨x, rfl, hpx, ha, hw, hro⟩
  have hrd := round x hpx κ h0 f a w hf ha hw
  simp only [fen, hro] at hrd
  refine wpIn_mono hrd ?_
  rintro e a' w' ⟨he, s', h1, h2, h3⟩
  cases e with
  | normal =>
    obtain ⟨x', hs', hp', hlt⟩ := h3
    exact ⟨μ x', hlt, x', rfl, hp', by rw [hs'.d]; exact h1.sub hs'.e, by rw [hs'.h]; exact h2.1.sub hs'.r, by rw [hs'.d]; exact h2.2⟩
  | exit i => exact ⟨by simp, s', h1, h2, h3⟩
  | goto i => exact ⟨by simp, s', h1, h2, h3⟩
  | ret => exact ⟨by simp, s', h1, h2, h3⟩
  | panic c => exact ⟨by simp, s', h1, h2, h3⟩
  | outgrown => exact absurd rfl he
end
end Go.Par

/- Engine, part 3: operations one by one, regions in the text's order, a function's beginning and end. It speaks of no program. -/
namespace Go.Par
open Go PH

/-- One operation, from state 's': it ends so. -/
def Exec (P : Program) (n : Nat) (o : Oper) (s : S) (K : Post) : Prop :=
  ∀ (κ : World) (h0 f : PH) (a : Act) (w : World), le h0 f → EnvOk n s.E s.D a → St κ h0 f s.R s.h w →
    ∀ (next : Act → World → Prop) (Q : Exit → Act → World → Prop),
      (∀ v R' h' w', le s.h h' → St κ h0 f R' h' w' → K (.returned v) R' h' → next (a.put o.dst v) w') →
      (∀ ch R' h' w', le s.h h' → St κ h0 f R' h' w' → K (.panicked ch) R' h' → Q (.panic ch) a w') → o.wpIn (fen s.D) 0 P a w next Q

/-- It yields 'v' and leaves all as it is. -/
def Is (v : Value) (R0 : List SL) (h0 : PH) : Post := fun e R h => e = .returned v ∧ R = R0 ∧ h = h0

theorem Exec.mono {P : Program} {n : Nat} {o : Oper} {s : S} {K K' : Post} (H : Exec P n o s K) (hk : ∀ e R h, le s.h h → K e R h → K' e R h) : Exec P n o s K' :=
  fun κ h0 f a w hf ha hw next Q h1 h2 => H κ h0 f a w hf ha hw next Q (fun v R' h' w' hle hs hK => h1 v R' h' w' hle hs (hk _ _ _ hle hK)) (fun ch R' h' w' hle hs hK => h2 ch R' h' w' hle hs (hk _ _ _ hle hK))

section
variable {P : Program} {n : Nat} {o : Oper} {s : S} {K : Post}

theorem Exec_of_run (H : ∀ (κ : World) (h0 f : PH) (a : Act) (w : World), le h0 f → EnvOk n s.E s.D a → St κ h0 f s.R s.h w →
    ∃ v R' h' w', ((execOp a.eval o).run P w = .ok (.value v) w' ∨ (v = undef ∧ (execOp a.eval o).run P w = .ok .skip w')) ∧ le s.h h' ∧ St κ h0 f R' h' w' ∧ K (.returned v) R' h') : Exec P n o s K := by
  intro κ h0 f a w hf ha hw next Q h1 _
  obtain ⟨v, R', h', w', hr, hle, hs, hK⟩ := H κ h0 f a w hf ha hw
  refine ⟨fun _ _ => trivial, ?_⟩
  have hnd : ∀ c, o.op ≠ .defer c := fun c hc => by
    rcases hr with hr | ⟨_, hr⟩ <;>
    · simp only [execOp, hc, Sem.run_bind] at hr
      cases hx : (resolve a.eval c o.type).run P w with
      | ok x w'' => simp [hx, Result.andThen] at hr
      | halt x w'' => simp [hx, Result.andThen] at hr
  rw [Oper.semAt_eq _ _ _ hnd]
  rcases hr with hr | ⟨rfl, hr⟩ <;> simp only [hr, Oper.uponIn] <;> exact h1 _ _ _ _ hle hs hK

theorem Exec_is {v : Value} (H : ∀ (a : Act) (w : World), EnvOk n s.E s.D a → (execOp a.eval o).run P w = .ok (.value v) w) : Exec P n o s (Is v s.R s.h) :=
  Exec_of_run fun _ _ _ a w _ ha hw => ⟨v, s.R, s.h, w, .inl (H a w ha), le.refl _, hw, rfl, rfl, rfl⟩
end

/-- A region's operations, one behind the other. -/
def WL (P : Program) (n : Nat) (ops : Array Oper) (l : List Oper) (s : S) (K : S → Prop) (Q : Exit → S → Prop) : Prop :=
  ∀ (κ : World) (h0 f : PH) (a : Act) (w : World), le h0 f → EnvOk n s.E s.D a → St κ h0 f s.R s.h w →
    ∀ (m : Nat), ops.toList.drop m = l →
      wpOpsIn (fen s.D) 0 P ops (fun e a' w' => e ≠ .outgrown ∧ ∃ s', EnvOk n s'.E s'.D a' ∧ (St κ h0 f s'.R s'.h w' ∧ roOf s'.D = roOf s.D) ∧ Then K Q e s') (List.range' m l.length) a w

/-- What comes behind an operation. -/
def Nx (P : Program) (n : Nat) (ops : Array Oper) (l : List Oper) (dst : Option Tmp) (E : Env) (D : List Deferred) (K : S → Prop) (Q : Exit → S → Prop) : Post
  | .returned v, R, h => WL P n ops l ⟨put E dst v, D, R, h⟩ K Q
  | .panicked ch, R, h => Q (.panic ch) ⟨E, D, R, h⟩
  | .outgrown, _, _ => False

/-- Is the operation wanted? By the slot that its guard names. -/
def gd (ops : Array Oper) (E : Env) (o : Oper) : Option Bool :=
  match o.guard with
  | none => some true
  | some (j, b) =>
    match ops[j]? with
    | some p => (match p.dst with
      | some d => (match lk E d with
        | some (.bool c) => some (c == b)
        | some (.tuple _) => some false
        | _ => none)
      | none => none)
    | none => none

theorem wanted_of_gd {n : Nat} {ops : Array Oper} {E : Env} {D : List Deferred} {a : Act} (ha : EnvOk n E D a) {o : Oper} {b : Bool} (h : gd ops E o = some b) : Region.wanted o (yielded ops a.tmps) = b := by
  unfold gd at h
  unfold Region.wanted
  split at h
  · rename_i hg; rw [hg]; simpa using h
  · rename_i j c hg
    rw [hg]
    split at h
    · rename_i p hp
      split at h
      · rename_i d hd
        split at h
        · rename_i x hx
          have := ha.2.2 d _ hx
          simp only [yielded, hp, hd, Option.bind_some, this]
          simpa using h
        · rename_i x hx
          have := ha.2.2 d _ hx
          simp only [yielded, hp, hd, Option.bind_some, this]
          simpa using h
        · cases h
      · cases h
    · cases h

section
variable {P : Program} {n : Nat} {ops : Array Oper} {l : List Oper} {s : S} {o : Oper} {K : S → Prop} {Q : Exit → S → Prop}

theorem WL_nil (h : K s) : WL P n ops [] s K Q := fun _ _ _ _ _ _ ha hw _ _ => by
  simp only [List.length_nil, List.range'_zero, wpOpsIn]
  exact ⟨by simp, s, ha, ⟨hw, rfl⟩, h⟩

theorem drop_head {α : Type} {l : List α} {m : Nat} {x : α} {r : List α} (h : l.drop m = x :: r) : l[m]? = some x ∧ l.drop (m + 1) = r := by
  constructor
  · have := congrArg (fun k : List α => k[0]?) h
    simpa using this
  · rw [← List.drop_drop, h]; rfl

theorem WL_step (hg : gd ops s.E o = some true) (hd : ∀ d, o.dst = some d → d < n) (hx : Exec P n o s (Nx P n ops l o.dst s.E s.D K Q)) : WL P n ops (o :: l) s K Q := by
  intro κ h0 f a w hf ha hw m hm
  obtain ⟨h1, h2⟩ := drop_head hm
  have ho : ops[m]? = some o := by rw [← Array.getElem?_toList]; exact h1
  simp only [List.length_cons, List.range'_succ, wpOpsIn, ho, wanted_of_gd ha hg, if_true]
  refine hx κ h0 f a w hf ha hw _ _ ?_ ?_
  · intro v R' h' w' _ hs hk
    exact hk κ h0 f _ w' hf (ha.put o.dst v hd) hs (m + 1) h2
  · intro ch R' h' w' _ hs hk
    exact ⟨by simp, ⟨s.E, s.D, R', h'⟩, ha, ⟨hs, rfl⟩, hk⟩

theorem WL_idle (hg : gd ops s.E o = some false) (hd : ∀ d, o.dst = some d → d < n) (k : WL P n ops l ⟨put s.E o.dst undef, s.D, s.R, s.h⟩ K Q) : WL P n ops (o :: l) s K Q := by
  intro κ h0 f a w hf ha hw m hm
  obtain ⟨h1, h2⟩ := drop_head hm
  have ho : ops[m]? = some o := by rw [← Array.getElem?_toList]; exact h1
  simp only [List.length_cons, List.range'_succ, wpOpsIn, ho, wanted_of_gd ha hg, Bool.false_eq_true, if_false]
  exact ⟨fun _ _ => trivial, k κ h0 f _ w hf (ha.put o.dst undef hd) hw (m + 1) h2⟩

theorem W_region {id : Nat} (hl : ops.toList = l) (h : WL P n ops l s (fun s' => Q .normal s') Q) : W P n (.region id ops false) s Q := fun κ h0 f a w hf ha hw => by
  refine wpIn_region ?_
  have e : List.range ops.size = List.range' 0 l.length := by rw [← hl, List.range_eq_range']; simp
  rw [e]
  have hT : Then (fun s' => Q .normal s') Q = Q := by funext e s'; cases e <;> rfl
  have := h κ h0 f a w hf ha hw 0 (by simpa using hl)
  rw [hT] at this
  exact this
end
end Go.Par

/- Engine, part 4: a function's beginning and end, calls, and the operations that every function has. It speaks of no program. -/
namespace Go.Par
open Go PH

def dOk (n : Nat) : Option Tmp → Bool
  | none => true
  | some d => Nat.blt d n
theorem dOk_lt {n : Nat} {x : Option Tmp} (h : dOk n x = true) : ∀ d, x = some d → d < n := by
  intro d e; subst e; exact Nat.lt_of_lt_of_le (Nat.le_of_ble_eq_true h) (Nat.le_refl _)

theorem map_arr {α β : Type} {f : α → β} {xs : Array α} {us : List β} (h : xs.toList.map f = us) : xs.map f = us.toArray := by
  subst h; rw [← Array.toList_map, Array.toArray_toList]

/-- The slots as the call finds them. -/
def argE : Nat → List Value → Env
  | _, [] => []
  | i, v :: vs => (i, v) :: argE (i + 1) vs
theorem argE_lk : ∀ (vs : List Value) (i t : Nat) (v : Value), lk (argE i vs) t = some v → i ≤ t ∧ vs[t - i]? = some v
  | [], _, _, _, h => by simp [argE, lk] at h
  | u :: us, i, t, v, h => by
    simp only [argE, lk] at h
    split at h
    · rename_i he
      have : i = t := Nat.eq_of_beq_eq_true he
      subst this
      simp at h; subst h
      simp
    · rename_i he
      obtain ⟨h1, h2⟩ := argE_lk us (i + 1) t v h
      refine ⟨by omega, ?_⟩
      have : t - i = (t - (i + 1)) + 1 := by omega
      rw [this]; simpa using h2

/-- What is owned and known turned, with no step of the program. -/
def Upd (R : List SL) (h : PH) (R' : List SL) (h' : PH) : Prop :=
  ∀ (κ : World) (h0 f : PH) (w : World), le h0 f → St κ h0 f R h w → St κ h0 f R' h' w
theorem Upd.refl (R : List SL) (h : PH) : Upd R h R h := fun _ _ _ _ _ s => s
theorem Upd.trans {R R1 R2 : List SL} {h h1 h2 : PH} (a : Upd R h R1 h1) (b : Upd R1 h1 R2 h2) : Upd R h R2 h2 := fun κ h0 f w hf s => b κ h0 f w hf (a κ h0 f w hf s)
theorem Upd.sub {R R' : List SL} {h : PH} (x : SubR R R') : Upd R h R' h := fun _ _ _ _ _ s => s.sub x
theorem Upd.none (R : List SL) (h : PH) : Upd R h [] h := Upd.sub (SubR.none R)
theorem Upd.freeze {R : List SL} {h : PH} (i : Nat) {b : Nat} {o : Obj} (hi : R[i]? = some (obj b o)) : Upd R h (R.eraseIdx i) (un h (one b o)) := fun _ _ _ _ _ s => s.freeze hi

def RetOk (P : Program) (n : Nat) (fn : Func) (s : S) (K : Post) : Prop :=
  ∀ (κ : World) (h0 f : PH) (a : Act) (w : World), le h0 f → EnvOk n s.E s.D a → St κ h0 f s.R s.h w →
    ∃ v R' h', (results fn a.tmps).run P w = .ok v w ∧ St κ h0 f R' h' w ∧ K (.returned v) R' h'

def Body (P : Program) (n : Nat) (fn : Func) (K : Post) : Exit → S → Prop
  | .normal, s | .ret, s => s.D = [] ∧ RetOk P n fn s K
  | .panic ch, s => s.D = [] ∧ K (.panicked ch) s.R s.h
  | _, _ => False

section
variable {P : Program} {n : Nat} {fn : Func} {E : Env} {D : List Deferred} {R R' : List SL} {h h' : PH} {K : Post}

theorem W_upd {c : Code} {Q : Exit → S → Prop} (u : Upd R h R' h') (k : W P n c ⟨E, D, R', h'⟩ Q) : W P n c ⟨E, D, R, h⟩ Q := fun κ h0 f a w hf ha hw =>
  k κ h0 f a w hf ha (u κ h0 f w hf hw)
theorem RetOk_upd (u : Upd R h R' h') (k : RetOk P n fn ⟨E, D, R', h'⟩ K) : RetOk P n fn ⟨E, D, R, h⟩ K := fun κ h0 f a w hf ha hw =>
  k κ h0 f a w hf ha (u κ h0 f w hf hw)
theorem Body_ret {s : S} (h1 : s.D = []) (h2 : RetOk P n fn s K) : Body P n fn K .ret s := ⟨h1, h2⟩
theorem Body_normal {s : S} (h1 : s.D = []) (h2 : RetOk P n fn s K) : Body P n fn K .normal s := ⟨h1, h2⟩
theorem Body_ret_upd (u : Upd R h R' h') (k : Body P n fn K .ret ⟨E, D, R', h'⟩) : Body P n fn K .ret ⟨E, D, R, h⟩ := ⟨k.1, RetOk_upd u k.2⟩

def tmpsOf : List ResultVar → Option (List Tmp)
  | [] => some []
  | .tmp t :: r => match tmpsOf r with
    | some ts => some (t :: ts)
    | none => none
  | .cell .. :: _ => none
def lks (E : Env) : List Tmp → Option (List Value)
  | [] => some []
  | t :: r => match lk E t with
    | some v => (match lks E r with
      | some vs => some (v :: vs)
      | none => none)
    | none => none
def resV : List Value → Value
  | [v] => v
  | vs => .tuple vs.toArray
def resF (tmps : Array Value) : ResultVar → Sem Value
  | .tmp t => pure (tmps.getD t undef)
  | .cell x t => do loadVar t (← asAddr (tmps.getD x undef))
theorem results_eq (fn : Func) (tmps : Array Value) : results fn tmps = (do let vs ← fn.results.mapM (resF tmps); pure (if h : vs.size = 1 then vs[0] else .tuple vs)) := rfl
theorem results_run {a : Act} (ha : EnvOk n E D a) (w : World) : ∀ {rs : List ResultVar} {ts : List Tmp} {vs : List Value}, tmpsOf rs = some ts → lks E ts = some vs →
    (rs.mapM (resF a.tmps)).run P w = Result.ok vs w
  | [], ts, vs, h1, h2 => by
    simp only [tmpsOf, Option.some.injEq] at h1; subst h1
    simp only [lks, Option.some.injEq] at h2; subst h2
    simp
  | .cell .. :: _, _, _, h1, _ => by simp [tmpsOf] at h1
  | .tmp t :: r, ts, vs, h1, h2 => by
    simp only [tmpsOf] at h1
    split at h1
    · rename_i us hus
      simp only [Option.some.injEq] at h1; subst h1
      simp only [lks] at h2
      split at h2
      · rename_i v hv
        split at h2
        · rename_i ws hws
          simp only [Option.some.injEq] at h2; subst h2
          have := results_run ha w hus hws
          have e := ha.2.2 t v hv
          have e' : a.tmps.getD t undef = v := by simp [Array.getD_eq_getD_getElem?, e]
          simp only [List.mapM_cons, Sem.run_bind, Sem.run_pure, Result.andThen_ok, this, resF, e']
        · cases h2
      · cases h2
    · cases h1

theorem RetOk_tmps {ts : List Tmp} {vs : List Value} (h1 : tmpsOf fn.results.toList = some ts) (h2 : lks E ts = some vs) (hK : K (.returned (resV vs)) R h) : RetOk P n fn ⟨E, D, R, h⟩ K := by
  intro κ h0 f a w hf ha hw
  refine ⟨resV vs, R, h, ?_, hw, hK⟩
  have := results_run (P := P) ha w h1 h2
  rw [results_eq, Sem.run_bind, Array.mapM_eq_mapM_toList, Sem.run_map, this]
  simp only [Result.andThen_ok]
  match vs with
  | [] => simp [resV]
  | [v] => simp [resV]
  | u :: v :: r => simp [resV]

/-- A function by its walk. -/
theorem Does_of_W {f : FuncId} {c : Code} {args : List Value} (hf : P.funcs[f]? = some fn) (hb : fn.body = some c) (hn : Nat.beq fn.ntmps n = true) (hl : Nat.ble args.length n = true) {E : Env} (hE : argE 0 args = E)
    (k : W P n c ⟨E, [], R, h⟩ (Body P n fn K)) : Does P f args R h K := by
  subst hE
  intro f' w hf' hw
  have hn : fn.ntmps = n := Nat.eq_of_beq_eq_true hn
  have hl : args.length ≤ n := Nat.le_of_ble_eq_true hl
  refine (callsIn_wide (n := 0)).1 (callsIn_of_wp hf hb trivial ?_)
  have ha : EnvOk n (argE 0 args) [] { tmps := args.toArray ++ Array.replicate (fn.ntmps - args.toArray.size) undef, defers := [] } := by
    refine ⟨by simp [hn]; omega, rfl, ?_⟩
    intro t v ht
    have := (argE_lk args 0 t v ht).2
    have hlt : t < args.length := by
      rcases Nat.lt_or_ge t args.length with h | h
      · exact h
      · simp [List.getElem?_eq_none h] at this
    rw [Array.getElem?_append_left (by simpa using hlt)]
    simpa using this
  refine wpIn_mono (k w h f' _ w hf' ha hw) ?_
  rintro e a' w' ⟨he, s', h1, ⟨h2, _⟩, h3⟩
  cases e with
  | normal =>
    obtain ⟨hD, hR⟩ := h3
    obtain ⟨v, R', h', hr, hs, hk⟩ := hR w h f' a' w' hf' h1 h2
    exact ⟨h1.2.1.trans (by rw [hD]; rfl), v, hr, by simp, R', h', hs.h_le, hs, hk⟩
  | ret =>
    obtain ⟨hD, hR⟩ := h3
    obtain ⟨v, R', h', hr, hs, hk⟩ := hR w h f' a' w' hf' h1 h2
    exact ⟨h1.2.1.trans (by rw [hD]; rfl), v, hr, by simp, R', h', hs.h_le, hs, hk⟩
  | panic ch => exact ⟨h1.2.1.trans (by rw [h3.1]; rfl), by simp, s'.R, s'.h, h2.h_le, h2, h3.2⟩
  | exit i => exact h3.elim
  | goto i => exact h3.elim
  | outgrown => exact absurd rfl he
end

/-! Operations -/

def callable (fn : Func) : Bool := fn.body.isSome && !(fn.name == "runtime.NumGoroutine")

section
variable {P : Program} {n : Nat} {ops : Array Oper} {l : List Oper} {o : Oper} {E : Env} {D : List Deferred} {R : List SL} {h : PH} {K : S → Prop} {Q : Exit → S → Prop}

theorem WL_is {d : Tmp} {v : Value} (hx : Exec P n o ⟨E, D, R, h⟩ (Is v R h)) (hd : o.dst = some d) (hg : gd ops E o = some true) (hn : Nat.blt d n = true)
    (k : WL P n ops l ⟨(d, v) :: E, D, R, h⟩ K Q) : WL P n ops (o :: l) ⟨E, D, R, h⟩ K Q := by
  refine WL_step hg (by rw [hd]; exact dOk_lt (x := some d) hn) (hx.mono ?_)
  rintro e R' h' _ ⟨rfl, rfl, rfl⟩
  simp only [Nx, hd]
  exact k
/-- An operation whose result is known by what is said of it. -/
theorem WL_any {d : Tmp} {A : Value → List SL → PH → Prop} (hx : Exec P n o ⟨E, D, R, h⟩ (Ret A)) (hd : o.dst = some d) (hg : gd ops E o = some true) (hn : Nat.blt d n = true)
    (k : ∀ v R' h', le h h' → A v R' h' → WL P n ops l ⟨(d, v) :: E, D, R', h'⟩ K Q) : WL P n ops (o :: l) ⟨E, D, R, h⟩ K Q := by
  refine WL_step hg (by rw [hd]; exact dOk_lt (x := some d) hn) (hx.mono ?_)
  intro e R' h' hle hA
  cases e with
  | returned v => simp only [Nx, hd]; exact k v R' h' hle hA
  | panicked ch => exact hA.elim
  | outgrown => exact hA.elim
/-- An operation that yields nothing. -/
theorem WL_do {A : Value → List SL → PH → Prop} (hx : Exec P n o ⟨E, D, R, h⟩ (Ret A)) (hd : o.dst = none) (hg : gd ops E o = some true)
    (k : ∀ v R' h', le h h' → A v R' h' → WL P n ops l ⟨E, D, R', h'⟩ K Q) : WL P n ops (o :: l) ⟨E, D, R, h⟩ K Q := by
  refine WL_step hg (by rw [hd]; intro d e; cases e) (hx.mono ?_)
  intro e R' h' hle hA
  cases e with
  | returned v => simp only [Nx, hd]; exact k v R' h' hle hA
  | panicked ch => exact hA.elim
  | outgrown => exact hA.elim
theorem WL_off {d : Tmp} (hd : o.dst = some d) (hg : gd ops E o = some false) (hn : Nat.blt d n = true) (k : WL P n ops l ⟨(d, undef) :: E, D, R, h⟩ K Q) : WL P n ops (o :: l) ⟨E, D, R, h⟩ K Q := by
  refine WL_idle hg (by rw [hd]; exact dOk_lt (x := some d) hn) ?_
  simp only [hd]
  exact k

theorem X_move {x : Operand} {v : Value} (ho : o.op = .move x) (hx : ev E x = some v) : Exec P n o ⟨E, D, R, h⟩ (Is v R h) :=
  Exec_is fun a w ha => by simp [execOp, ho, ha.ev hx]
theorem X_assign {x : Operand} {v : Value} (ho : o.op = .assign x) (hx : ev E x = some v) : Exec P n o ⟨E, D, R, h⟩ (Is v R h) :=
  Exec_is fun a w ha => by simp [execOp, ho, ha.ev hx]
theorem X_pick_t {c x y : Operand} {v : Value} (ho : o.op = .pick c x y) (hc : ev E c = some (.bool true)) (hx : ev E x = some v) : Exec P n o ⟨E, D, R, h⟩ (Is v R h) :=
  Exec_is fun a w ha => by simp [execOp, ho, ha.ev hc, ha.ev hx, asBool]
theorem X_pick_f {c x y : Operand} {v : Value} (ho : o.op = .pick c x y) (hc : ev E c = some (.bool false)) (hx : ev E y = some v) : Exec P n o ⟨E, D, R, h⟩ (Is v R h) :=
  Exec_is fun a w ha => by simp [execOp, ho, ha.ev hc, ha.ev hx, asBool]
theorem X_nilCheck {x : Operand} {p : Addr} (ho : o.op = .nilCheck x) (hx : ev E x = some (.pointer (some p))) : Exec P n o ⟨E, D, R, h⟩ (Is (.pointer (some p)) R h) :=
  Exec_is fun a w ha => by simp [execOp, ho, ha.ev hx]
theorem X_extract {x : Operand} {i : Nat} {vs : List Value} {v : Value} (ho : o.op = .extract x i) (hx : ev E x = some (.tuple vs.toArray)) (hv : vs[i]? = some v) : Exec P n o ⟨E, D, R, h⟩ (Is v R h) :=
  Exec_is fun a w ha => by simp [execOp, ho, ha.ev hx, Instr.extract, hv]
theorem X_makeFunc {fn : Go.Fn} {xs ys : Array Operand} {us vs : List Value} (ho : o.op = .makeFunc fn xs ys) (hx : evs E xs.toList = some us) (hy : evs E ys.toList = some vs) :
    Exec P n o ⟨E, D, R, h⟩ (Is (.func fn us.toArray vs.toArray) R h) :=
  Exec_is fun a w ha => by
    have e1 : xs.map a.eval = us.toArray := map_arr (ha.evs hx)
    have e2 : ys.map a.eval = vs.toArray := map_arr (ha.evs hy)
    simp [execOp, ho, Instr.makeFunc, e1, e2]

/-- A call of a Go function. 'R1' goes with it. -/
theorem X_call {fo : Operand} {xs : Array Operand} {tys : Array TypeId} {f : FuncId} {fi ca : Array Value} {args : List Value} {fn : Func} {R1 R2 : List SL} {A : Post}
    (ho : o.op = .call ⟨.value fo, xs, tys⟩) (hfo : ev E fo = some (.func (.func f) fi ca)) (hxs : evs E xs.toList = some args)
    (hfn : P.funcs[f]? = some fn) (hc : callable fn = true) (hR : R.Perm (R1 ++ R2)) (hF : Does P f (fi.toList ++ args ++ ca.toList) R1 h A) :
    Exec P n o ⟨E, D, R, h⟩ (fun e R' h' => ∃ R1', R' = R1' ++ R2 ∧ A e R1' h') := by
  intro κ h0 f0 a w hf ha hw next Q h1 h2
  obtain ⟨f', hle, hs, hback⟩ := (hw.perm hR).lend hf
  have hcall := hF f' w hle hs
  simp only [callable, Bool.and_eq_true, Bool.not_eq_true'] at hc
  have e1 : xs.map a.eval = args.toArray := map_arr (ha.evs hxs)
  have hrun : (execOp a.eval o).run P w = .ok (.enter f (fi.toList ++ args ++ ca.toList).toArray) w := by
    have hb : fn.body.isNone = false := by cases hh : fn.body <;> simp_all
    have hnm : (fn.name == "runtime.NumGoroutine") = false := hc.2
    have e2 : fi ++ args.toArray ++ ca = (fi.toList ++ args ++ ca.toList).toArray := by simp
    simp only [execOp, ho, resolve, Deferred.ofValue, ha.ev hfo, e1, Sem.run_bind, Sem.run_pure, Result.andThen_ok, invoke, callFunc, run_program, hfn, hnm, hb, e2, Bool.false_eq_true, if_false]
  refine ⟨fun _ _ => trivial, ?_⟩
  rw [Oper.semAt_eq _ _ _ (by rw [ho]; intro c hc; cases hc), hrun, Oper.uponIn_enter]
  refine ⟨fen_depth, callsIn_fen (hcall.mono ?_)⟩
  rintro e w' ⟨he, R', h', hle', hs', hA⟩
  cases e with
  | returned v => exact h1 v _ _ _ hle' (hback _ _ _ hle' hs') ⟨R', rfl, hA⟩
  | panicked ch => exact h2 ch _ _ _ hle' (hback _ _ _ hle' hs') ⟨R', rfl, hA⟩
  | outgrown => exact absurd rfl he

/-- A call that answers one value, whatever memory it makes. -/
theorem X_callv {fo : Operand} {xs : Array Operand} {tys : Array TypeId} {f : FuncId} {fi ca : Array Value} {args : List Value} {fn : Func} {c : Value}
    (ho : o.op = .call ⟨.value fo, xs, tys⟩) (hfo : ev E fo = some (.func (.func f) fi ca)) (hxs : evs E xs.toList = some args)
    (hfn : P.funcs[f]? = some fn) (hc : callable fn = true) (hF : Does P f (fi.toList ++ args ++ ca.toList) [] h (Ret fun v _ _ => v = c)) :
    Exec P n o ⟨E, D, R, h⟩ (Is c R h) := by
  intro κ h0 f0 a w hf ha hw next Q h1 h2
  refine X_call ho hfo hxs hfn hc (R1 := []) (R2 := R) (by simp) hF κ h0 f0 a w hf ha hw next Q ?_ ?_
  · rintro v R' h' w' hle hs ⟨R1', rfl, hA⟩
    have hv : v = c := hA
    subst hv
    refine h1 v R h w' (le.refl _) ?_ ⟨rfl, rfl, rfl⟩
    exact (St.weaken hw.h_le hle hs).sub (R1 := R) ⟨R1', List.perm_append_comm⟩
  · rintro ch R' h' w' _ _ ⟨R1', rfl, hA⟩
    exact hA.elim

/-- A call that takes nothing of what is owned. -/
theorem WL_call {d : Tmp} {fo : Operand} {xs : Array Operand} {tys : Array TypeId} {f : FuncId} {fi ca : Array Value} {args : List Value} {fn : Func} {A : Value → List SL → PH → Prop}
    (ho : o.op = .call ⟨.value fo, xs, tys⟩) (hfo : ev E fo = some (.func (.func f) fi ca)) (hxs : evs E xs.toList = some args)
    (hfn : P.funcs[f]? = some fn) (hc : callable fn = true) (hd : o.dst = some d) (hg : gd ops E o = some true) (hn : Nat.blt d n = true) (hF : Does P f (fi.toList ++ args ++ ca.toList) [] h (Ret A))
    (k : ∀ v R' h', le h h' → A v R' h' → WL P n ops l ⟨(d, v) :: E, D, R' ++ R, h'⟩ K Q) : WL P n ops (o :: l) ⟨E, D, R, h⟩ K Q := by
  refine WL_step hg (by rw [hd]; exact dOk_lt (x := some d) hn) ((X_call ho hfo hxs hfn hc (R1 := []) (R2 := R) (by simp) hF).mono ?_)
  rintro e R' h' hle ⟨R1', rfl, hA⟩
  cases e with
  | returned v => simp only [Nx, hd]; exact k v R1' h' hle hA
  | panicked ch => exact hA.elim
  | outgrown => exact hA.elim
/-- A call with resources. -/
theorem WL_callR (R1 R2 : List SL) {d : Tmp} {fo : Operand} {xs : Array Operand} {tys : Array TypeId} {f : FuncId} {fi ca : Array Value} {args : List Value} {fn : Func} {A : Value → List SL → PH → Prop}
    (ho : o.op = .call ⟨.value fo, xs, tys⟩) (hfo : ev E fo = some (.func (.func f) fi ca)) (hxs : evs E xs.toList = some args)
    (hfn : P.funcs[f]? = some fn) (hc : callable fn = true) (hd : o.dst = some d) (hg : gd ops E o = some true) (hn : Nat.blt d n = true) (hR : R.Perm (R1 ++ R2)) (hF : Does P f (fi.toList ++ args ++ ca.toList) R1 h (Ret A))
    (k : ∀ v R' h', le h h' → A v R' h' → WL P n ops l ⟨(d, v) :: E, D, R' ++ R2, h'⟩ K Q) : WL P n ops (o :: l) ⟨E, D, R, h⟩ K Q := by
  refine WL_step hg (by rw [hd]; exact dOk_lt (x := some d) hn) ((X_call ho hfo hxs hfn hc hR hF).mono ?_)
  rintro e R' h' hle ⟨R1', rfl, hA⟩
  cases e with
  | returned v => simp only [Nx, hd]; exact k v R1' h' hle hA
  | panicked ch => exact hA.elim
  | outgrown => exact hA.elim
end
end Go.Par

/- Engine, part 5: regions that draw their order, walked once in the text's order. It speaks of no program. -/
namespace Go.Par
open Go PH

section
variable {κ : World} {h0 f : PH} {h : PH} {w : World}
/-- The call's side, with less knowledge: what comes of it is known beside what was known. -/
theorem St.lendH {R1 R2 : List SL} {hl : PH} (hf : le h0 f) (hle : le hl h) (s : St κ h0 f (R1 ++ R2) h w) :
    ∃ f', le hl f' ∧ St w hl f' R1 hl w ∧ ∀ R1' h' w', St w hl f' R1' h' w' → ∃ h'', le h h'' ∧ le h' h'' ∧ St κ h0 f (R1' ++ R2) h'' w' := by
  obtain ⟨⟨a1, a2, a3, a4⟩, g, k, rfl, hr, hgf, hkf, hgk, hg, hk, hw⟩ := s
  obtain ⟨g1, g2, rfl, hd, hr1, hr2⟩ := stars_append.1 hr
  have hgf' := dj_un_left.1 hgf
  have hgk' := dj_un_left.1 hgk
  refine ⟨un (un f k) g2, ?_, ⟨⟨rfl, rfl, rfl, Nat.le_refl _⟩, g1, none_, (un_none_right _).symm, hr1, ?_, dj_none_left _, dj_none_right _, inW_le (le_un_left _ _) hg, fun b o h => by simp [none_] at h, ?_⟩, ?_⟩
  · exact hle.trans ((le_un (hf.trans (le_un_left f k)) (le_un_right hkf.symm)).trans (le_un_left _ _))
  · exact dj_un_right.2 ⟨dj_un_right.2 ⟨hgf'.1, hgk'.1⟩, hd⟩
  · exact inW_un (inW_un hw hk) (inW_le (le_un_right hd) hg)
  · rintro R1' h' w' ⟨⟨b1, b2, b3, b4⟩, g', k', rfl, hr', hgf2, hkf2, hgk2, hg2, hk2, hw2⟩
    have q1 := dj_un_right.1 hgf2
    have q2 := dj_un_right.1 q1.1
    have p1 := dj_un_right.1 hkf2
    have p2 := dj_un_right.1 p1.1
    have dg2 : dj (un f k) g2 := dj_un_left.2 ⟨hgf'.2.symm, hgk'.2.symm⟩
    have dhk : dj (un h0 k) k' := dj_un_left.2 ⟨dj_le hf p2.1.symm, p2.2.symm⟩
    refine ⟨un (un h0 k) k', le_un_left _ _, le_un (hle.trans (le_un_left _ _)) (le_un_right dhk), ⟨b1.trans a1, b2.trans a2, b3.trans a3, Nat.le_trans a4 b4⟩, un g' g2, un k k', (un_assoc _ _ _), stars_append.2 ⟨g', g2, rfl, q1.2, hr', hr2⟩, dj_un_left.2 ⟨q2.1, hgf'.2⟩, dj_un_left.2 ⟨hkf, p2.1⟩, ?_, inW_un hg2 (inW_le (le_un_right dg2) hw2), inW_un ?_ hk2, ?_⟩
    · exact dj_un_right.2 ⟨dj_un_left.2 ⟨q2.2, hgk'.2⟩, dj_un_left.2 ⟨hgk2, p1.2.symm⟩⟩
    · exact inW_le ((le_un_right hkf.symm).trans (le_un_left _ _)) hw2
    · exact inW_le ((le_un_left _ _).trans (le_un_left _ _)) hw2
end

theorem Exec_frame {P : Program} {n : Nat} {o : Oper} {E E' : Env} {D : List Deferred} {R R1 R2 : List SL} {h h' : PH} {K : Post} (H : Exec P n o ⟨E, D, R1, h⟩ K)
    (hE : SubE E' E) (hR : R.Perm (R1 ++ R2)) (hh : le h h') :
    Exec P n o ⟨E', D, R, h'⟩ (fun e R' h'' => ∃ R1' h1, R' = R1' ++ R2 ∧ le h h1 ∧ le h1 h'' ∧ K e R1' h1) := by
  intro κ h0 f a w hf ha hw next Q h1 h2
  obtain ⟨f', hle, hs, hback⟩ := (hw.perm hR).lendH hf hh
  refine H w h f' a w hle (ha.sub hE) hs next Q ?_ ?_
  · intro v R' k w' hk hs' hK
    obtain ⟨h'', x1, x2, hs''⟩ := hback _ _ _ hs'
    exact h1 v _ _ _ x1 hs'' ⟨R', k, rfl, hk, x2, hK⟩
  · intro ch R' k w' hk hs' hK
    obtain ⟨h'', x1, x2, hs''⟩ := hback _ _ _ hs'
    exact h2 ch _ _ _ x1 hs'' ⟨R', k, rfl, hk, x2, hK⟩

/-- What is said of an operation of a region that draws: its value; or what is known of its value, what it takes, what it makes. -/
inductive Sp where
  | val (v : Value)
  | opq (A : Value → PH → Prop) (C : List SL) (O : Value → List SL)

def Sp.holds : Sp → Value → PH → Prop
  | .val v, u, _ => u = v
  | .opq A _ _, u, h => A u h
def Sp.C : Sp → List SL
  | .val _ => []
  | .opq _ C _ => C
def Sp.O : Sp → Value → List SL
  | .val _, _ => []
  | .opq _ _ O, u => O u

abbrev Done := List (Nat × Option Tmp × Sp)

def hasE (l : List Edge) (j : Nat) : Bool := l.any fun e => Nat.beq e.on j && Region.binds .any e

/-- The slots that an operation may count on. -/
def av (l : List Edge) (vs : Nat → Value) : Done → Env
  | [] => []
  | (j, some d, .val v) :: r => match hasE l j with
    | true => (d, v) :: av l vs r
    | false => av l vs r
  | (j, some d, .opq _ _ _) :: r => match hasE l j with
    | true => (d, vs j) :: av l vs r
    | false => av l vs r
  | (_, none, _) :: r => av l vs r

/-- What is known of them. -/
def fc (l : List Edge) (vs : Nat → Value) (h : PH) : Done → Prop
  | [] => True
  | (j, _, .opq A _ _) :: r => match hasE l j with
    | true => A (vs j) h ∧ fc l vs h r
    | false => fc l vs h r
  | (_, _, .val _) :: r => fc l vs h r

def endE (vs : Nat → Value) : Done → Env
  | [] => []
  | (_, some d, .val v) :: r => (d, v) :: endE vs r
  | (j, some d, .opq _ _ _) :: r => (d, vs j) :: endE vs r
  | (_, none, _) :: r => endE vs r
def endF (vs : Nat → Value) (h : PH) : Done → Prop
  | [] => True
  | (j, _, .opq A _ _) :: r => A (vs j) h ∧ endF vs h r
  | (_, _, .val _) :: r => endF vs h r
def endR (vs : Nat → Value) : Done → List SL
  | [] => []
  | (j, _, .opq _ _ O) :: r => O (vs j) ++ endR vs r
  | (_, _, .val _) :: r => endR vs r
def allC : Done → List SL
  | [] => []
  | (_, _, .opq _ C _) :: r => C ++ allC r
  | (_, _, .val _) :: r => allC r

/-- Whatever is known, stays known. -/
def Sp.stays : Sp → Prop
  | .val _ => True
  | .opq A _ _ => ∀ v h h', le h h' → A v h → A v h'

/-- What is owed for one operation. -/
def Ob (P : Program) (n : Nat) (ops : Array Oper) (E0 : Env) (D : List Deferred) (R : List SL) (h : PH) (o : Oper) (sp : Sp) (dn : Done) : Prop :=
  dOk n o.dst = true ∧ sp.stays ∧
  ((sp = .val undef ∧ ∀ vs, gd ops (av o.after.toList vs dn ++ E0) o = some false) ∨
   ((∀ vs, gd ops (av o.after.toList vs dn ++ E0) o = some true) ∧
    ∀ vs h', le h h' → fc o.after.toList vs h' dn → Exec P n o ⟨av o.after.toList vs dn ++ E0, D, sp.C ++ R, h'⟩ (fun e R' h'' => ∃ v, e = .returned v ∧ sp.holds v h'' ∧ SubR R' (sp.O v ++ R))))

/-- The region's first operations, in the text's order. -/
def RG (P : Program) (n : Nat) (ops : Array Oper) (E0 : Env) (D : List Deferred) (R : List SL) (h : PH) (K : Done → Prop) : Nat → List Oper → Done → Prop
  | _, [], dn => K dn
  | i, o :: l, dn => ∃ sp, Ob P n ops E0 D R h o sp dn ∧ RG P n ops E0 D R h K (i + 1) l ((i, o.dst, sp) :: dn)

theorem lk_append {E E' : Env} {t : Nat} {v : Value} (h : lk (E ++ E') t = some v) : lk E t = some v ∨ lk E' t = some v := by
  induction E with
  | nil => exact .inr h
  | cons x r ih =>
    obtain ⟨k, u⟩ := x
    cases hb : Nat.beq k t with
    | true => simp only [List.cons_append, lk, hb] at h ⊢; exact .inl h
    | false => simp only [List.cons_append, lk, hb] at h ⊢; exact ih h

theorem av_lk {l : List Edge} {vs : Nat → Value} {t : Nat} {v : Value} : ∀ {dn : Done}, lk (av l vs dn) t = some v →
    ∃ j sp, (j, some t, sp) ∈ dn ∧ hasE l j = true ∧ (match sp with | .val u => v = u | .opq _ _ _ => v = vs j)
  | [], h => by simp [av, lk] at h
  | (j, none, sp) :: r, h => by
    obtain ⟨j', sp', hm, x⟩ := av_lk (dn := r) (by cases sp <;> simpa [av] using h)
    exact ⟨j', sp', .tail _ hm, x⟩
  | (j, some d, .val u) :: r, h => by
    simp only [av] at h
    split at h
    · rename_i hj
      simp only [lk] at h
      split at h
      · rename_i he
        have : d = t := Nat.eq_of_beq_eq_true he
        subst this
        simp at h; subst h
        exact ⟨j, _, .head _, hj, rfl⟩
      · obtain ⟨j', sp', hm, x⟩ := av_lk (dn := r) h
        exact ⟨j', sp', .tail _ hm, x⟩
    · obtain ⟨j', sp', hm, x⟩ := av_lk (dn := r) h
      exact ⟨j', sp', .tail _ hm, x⟩
  | (j, some d, .opq A C O) :: r, h => by
    simp only [av] at h
    split at h
    · rename_i hj
      simp only [lk] at h
      split at h
      · rename_i he
        have : d = t := Nat.eq_of_beq_eq_true he
        subst this
        simp at h; subst h
        exact ⟨j, _, .head _, hj, rfl⟩
      · obtain ⟨j', sp', hm, x⟩ := av_lk (dn := r) h
        exact ⟨j', sp', .tail _ hm, x⟩
    · obtain ⟨j', sp', hm, x⟩ := av_lk (dn := r) h
      exact ⟨j', sp', .tail _ hm, x⟩

theorem fc_of {l : List Edge} {vs : Nat → Value} {h : PH} : ∀ {dn : Done}, (∀ j d sp, (j, d, sp) ∈ dn → hasE l j = true → sp.holds (vs j) h) → fc l vs h dn
  | [], _ => trivial
  | (j, d, .val u) :: r, H => by simp only [fc]; exact fc_of (dn := r) fun j d sp hm => H j d sp (.tail _ hm)
  | (j, d, .opq A C O) :: r, H => by
    simp only [fc]
    split
    · rename_i hj
      exact ⟨H j d _ (.head _) hj, fc_of (dn := r) fun j d sp hm => H j d sp (.tail _ hm)⟩
    · exact fc_of (dn := r) fun j d sp hm => H j d sp (.tail _ hm)
theorem endF_of {vs : Nat → Value} {h : PH} : ∀ {dn : Done}, (∀ j d sp, (j, d, sp) ∈ dn → sp.holds (vs j) h) → endF vs h dn
  | [], _ => trivial
  | (_, _, .val _) :: r, H => endF_of (dn := r) fun j d sp hm => H j d sp (.tail _ hm)
  | (j, d, .opq _ _ _) :: r, H => ⟨H j d _ (.head _), endF_of (dn := r) fun j d sp hm => H j d sp (.tail _ hm)⟩
theorem endE_lk {vs : Nat → Value} {t : Nat} {v : Value} : ∀ {dn : Done}, lk (endE vs dn) t = some v →
    ∃ j sp, (j, some t, sp) ∈ dn ∧ (match sp with | .val u => v = u | .opq _ _ _ => v = vs j)
  | [], h => by simp [endE, lk] at h
  | (j, none, sp) :: r, h => by
    obtain ⟨j', sp', hm, x⟩ := endE_lk (dn := r) (by cases sp <;> simpa [endE] using h)
    exact ⟨j', sp', .tail _ hm, x⟩
  | (j, some d, .val u) :: r, h => by
    simp only [endE, lk] at h
    split at h
    · rename_i he
      have : d = t := Nat.eq_of_beq_eq_true he
      subst this
      simp at h; subst h
      exact ⟨j, _, .head _, rfl⟩
    · obtain ⟨j', sp', hm, x⟩ := endE_lk (dn := r) h
      exact ⟨j', sp', .tail _ hm, x⟩
  | (j, some d, .opq A C O) :: r, h => by
    simp only [endE, lk] at h
    split at h
    · rename_i he
      have : d = t := Nat.eq_of_beq_eq_true he
      subst this
      simp at h; subst h
      exact ⟨j, _, .head _, rfl⟩
    · obtain ⟨j', sp', hm, x⟩ := endE_lk (dn := r) h
      exact ⟨j', sp', .tail _ hm, x⟩

/-- The first operations, the latest at the head. -/
def dnOf (dst : Nat → Option Tmp) (sp : Nat → Sp) : Nat → Done
  | 0 => []
  | k + 1 => (k, dst k, sp k) :: dnOf dst sp k
theorem dnOf_congr {dst : Nat → Option Tmp} {sp sp' : Nat → Sp} : ∀ {k : Nat}, (∀ j, j < k → sp j = sp' j) → dnOf dst sp k = dnOf dst sp' k
  | 0, _ => rfl
  | k + 1, h => by simp only [dnOf, h k (by omega)]; rw [dnOf_congr (k := k) fun j hj => h j (by omega)]
theorem dnOf_mem {dst : Nat → Option Tmp} {sp : Nat → Sp} {j : Nat} {d : Option Tmp} {s : Sp} : ∀ {k : Nat}, (j, d, s) ∈ dnOf dst sp k → j < k ∧ d = dst j ∧ s = sp j
  | 0, h => by simp [dnOf] at h
  | k + 1, h => by
    simp only [dnOf, List.mem_cons, Prod.mk.injEq] at h
    rcases h with ⟨rfl, rfl, rfl⟩ | h
    · exact ⟨by omega, rfl, rfl⟩
    · obtain ⟨a, b, c⟩ := dnOf_mem h
      exact ⟨by omega, b, c⟩

/-- All that the walk owes, gathered: for each operation what is done before it. -/
theorem RG_all {P : Program} {n : Nat} {ops : Array Oper} {E0 : Env} {D : List Deferred} {R : List SL} {h : PH} {K : Done → Prop} {dst : Nat → Option Tmp} :
    ∀ (l : List Oper) (i : Nat) (sp0 : Nat → Sp), (∀ k o, l[k]? = some o → dst (i + k) = o.dst) → RG P n ops E0 D R h K i l (dnOf dst sp0 i) →
      ∃ sp : Nat → Sp, (∀ j, j < i → sp j = sp0 j) ∧ (∀ k o, l[k]? = some o → Ob P n ops E0 D R h o (sp (i + k)) (dnOf dst sp (i + k))) ∧ K (dnOf dst sp (i + l.length))
  | [], i, sp0, _, H => ⟨sp0, fun _ _ => rfl, fun k o hk => by simp at hk, by simpa [RG] using H⟩
  | o :: l, i, sp0, hd, H => by
    obtain ⟨s, hob, hr⟩ := H
    have h0 : dst i = o.dst := hd 0 o rfl
    let sp1 : Nat → Sp := fun j => if j = i then s else sp0 j
    have e1 : dnOf dst sp1 i = dnOf dst sp0 i := dnOf_congr fun j hj => by simp only [sp1, if_neg (by omega : ¬ j = i)]
    have e2 : (i, o.dst, s) :: dnOf dst sp0 i = dnOf dst sp1 (i + 1) := by simp only [dnOf, e1, h0, sp1, if_true]
    rw [e2] at hr
    obtain ⟨sp, ha, hb, hc⟩ := RG_all l (i + 1) sp1 (fun k o' hk => by have := hd (k + 1) o' (by simpa using hk); rw [← this]; congr 1; omega) hr
    refine ⟨sp, fun j hj => by rw [ha j (by omega)]; simp only [sp1, if_neg (by omega : ¬ j = i)], ?_, by rw [List.length_cons, show i + (l.length + 1) = i + 1 + l.length from by omega]; exact hc⟩
    intro k o' hk
    cases k with
    | zero =>
      simp at hk; subst hk
      have : sp i = s := by rw [ha i (by omega)]; simp only [sp1, if_true]
      rw [Nat.add_zero, this, dnOf_congr (sp' := sp0) fun j hj => by rw [ha j (by omega)]; simp only [sp1, if_neg (by omega : ¬ j = i)]]
      exact hob
    | succ k =>
      have := hb k o' (by simpa using hk)
      rw [show i + (k + 1) = i + 1 + k from by omega]
      exact this

theorem hasE_mem {l : List Edge} {j : Nat} (h : hasE l j = true) : ∃ e ∈ l, e.on = j ∧ Region.binds .any e = true := by
  simp only [hasE, List.any_eq_true, Bool.and_eq_true] at h
  obtain ⟨e, he, h1, h2⟩ := h
  exact ⟨e, he, Nat.eq_of_beq_eq_true h1, h2⟩

/-- The resources of the operations from 0 to m: made by those that were carried out, not yet taken by the others. -/
def pool (sp : Nat → Sp) (vs : Nat → Value) (listed : Nat → Bool) : Nat → List SL
  | 0 => []
  | k + 1 => (match listed k with | true => (sp k).O (vs k) | false => (sp k).C) ++ pool sp vs listed k
theorem pool_congr {sp : Nat → Sp} {vs vs' : Nat → Value} {l l' : Nat → Bool} : ∀ {k : Nat}, (∀ j, j < k → l j = l' j ∧ vs j = vs' j) → pool sp vs l k = pool sp vs' l' k
  | 0, _ => rfl
  | k + 1, h => by simp only [pool, (h k (by omega)).1, (h k (by omega)).2]; rw [pool_congr (k := k) fun j hj => h j (by omega)]
/-- One operation's part, and the others'. -/
theorem pool_split {sp : Nat → Sp} {vs : Nat → Value} {l : Nat → Bool} {i : Nat} : ∀ {k : Nat}, i < k →
    ∃ X, (pool sp vs l k).Perm ((match l i with | true => (sp i).O (vs i) | false => (sp i).C) ++ X) ∧
      ∀ v b, (pool sp (fun j => if j = i then v else vs j) (fun j => if j = i then b else l j) k).Perm ((match b with | true => (sp i).O v | false => (sp i).C) ++ X)
  | 0, h => by omega
  | k + 1, h => by
    by_cases e : i = k
    · subst e
      refine ⟨pool sp vs l i, by simp only [pool]; exact .refl _, ?_⟩
      intro v b
      simp only [pool, if_true]
      rw [pool_congr (k := i) (vs' := vs) (l' := l) fun j hj => by constructor <;> rw [if_neg (by omega)]]
    · obtain ⟨X, h1, h2⟩ := pool_split (sp := sp) (vs := vs) (l := l) (i := i) (k := k) (by omega)
      refine ⟨(match l k with | true => (sp k).O (vs k) | false => (sp k).C) ++ X, ?_, ?_⟩
      · simp only [pool]
        exact (h1.append_left _).trans (by simp only [← List.append_assoc]; exact List.perm_append_comm.append_right _)
      · intro v b
        simp only [pool, if_neg (by omega : ¬ k = i)]
        exact ((h2 v b).append_left _).trans (by simp only [← List.append_assoc]; exact List.perm_append_comm.append_right _)
theorem pool_all {sp : Nat → Sp} {vs : Nat → Value} {l : Nat → Bool} {dst : Nat → Option Tmp} : ∀ {k : Nat}, (∀ j, j < k → l j = true) → pool sp vs l k = endR vs (dnOf dst sp k)
  | 0, _ => rfl
  | k + 1, h => by
    simp only [pool, h k (by omega), dnOf]
    rw [pool_all (k := k) (dst := dst) fun j hj => h j (by omega)]
    cases sp k <;> simp [endR, Sp.O]
theorem pool_none {sp : Nat → Sp} {vs : Nat → Value} {l : Nat → Bool} {dst : Nat → Option Tmp} : ∀ {k : Nat}, (∀ j, j < k → l j = false) → pool sp vs l k = allC (dnOf dst sp k)
  | 0, _ => rfl
  | k + 1, h => by
    simp only [pool, h k (by omega), dnOf]
    rw [pool_none (k := k) (dst := dst) fun j hj => h j (by omega)]
    cases sp k <;> simp [allC, Sp.C]
end Go.Par

/- Engine, part 6: the walk of a region that draws its order is sound. It speaks of no program. -/
namespace Go.Par
open Go PH

def lf (listed : Array Bool) (j : Nat) : Bool := listed.getD j false
theorem lf_set {listed : Array Bool} {i : Nat} (hi : i < listed.size) (j : Nat) : lf (listed.setIfInBounds i true) j = if j = i then true else lf listed j := by
  unfold lf
  simp only [Array.getD_eq_getD_getElem?]
  by_cases e : j = i
  · subst e; simp [hi]
  · rw [Array.getElem?_setIfInBounds_ne (Ne.symm e), if_neg e]

def cntU (l : Nat → Bool) : Nat → Nat
  | 0 => 0
  | k + 1 => cntU l k + (if l k = true then 0 else 1)
theorem cntU_congr {l l' : Nat → Bool} : ∀ {k : Nat}, (∀ j, j < k → l j = l' j) → cntU l k = cntU l' k
  | 0, _ => rfl
  | k + 1, h => by simp only [cntU, h k (by omega), cntU_congr (k := k) fun j hj => h j (by omega)]
theorem cntU_set {l : Nat → Bool} {i : Nat} (hi : l i = false) : ∀ {k : Nat}, i < k → cntU (fun j => if j = i then true else l j) k + 1 = cntU l k
  | 0, h => by omega
  | k + 1, h => by
    by_cases e : i = k
    · subst e
      have : cntU (fun j => if j = i then true else l j) i = cntU l i := cntU_congr fun j hj => by rw [if_neg (by omega)]
      simp only [cntU, this, hi, if_true]; simp
    · have := cntU_set hi (k := k) (by omega)
      simp only [cntU, if_neg (by omega : ¬ k = i)]
      omega
theorem cntU_zero {l : Nat → Bool} : ∀ {k : Nat}, cntU l k = 0 → ∀ j, j < k → l j = true
  | 0, _, j, hj => by omega
  | k + 1, h, j, hj => by
    simp only [cntU] at h
    by_cases hk : l k = true
    · rcases Nat.lt_or_ge j k with h' | h'
      · exact cntU_zero (by omega) j h'
      · have : j = k := by omega
        subst this; exact hk
    · rw [if_neg hk] at h; omega

/-- What the kernel looks at: edges lead back; the first m operations' slots are their own; from m on each waits for all before it. -/
def edgesBack (o : Oper) (i : Nat) : Bool := o.after.toList.all fun e => !Region.binds .any e || Nat.blt e.on i
def dstsOf : List Oper → List Tmp
  | [] => []
  | o :: l => match o.dst with | some d => d :: dstsOf l | none => dstsOf l
def noDup : List Nat → Bool
  | [] => true
  | d :: l => !(l.any fun x => Nat.beq x d) && noDup l
def backAll : Nat → List Oper → Bool
  | _, [] => true
  | i, o :: l => edgesBack o i && backAll (i + 1) l
/-- All of the first m are waited for, by those lists or by one another. -/
def coverDn (l1 : List Oper) : Nat → List (List Edge) → Bool
  | 0, _ => true
  | j + 1, S => S.any (fun l => hasE l j) && coverDn l1 j (match l1[j]? with | some o => S ++ [o.after.toList] | none => S)
def Dc (l1 : List Oper) (l : Nat → Bool) : Prop := ∀ j o, l1[j]? = some o → l j = true → ∀ k, hasE o.after.toList k = true → l k = true
theorem coverDn_has {l1 : List Oper} {l : Nat → Bool} (hd : Dc l1 l) : ∀ {m : Nat} {S : List (List Edge)}, (∀ x ∈ S, ∀ k, hasE x k = true → l k = true) → coverDn l1 m S = true → ∀ j, j < m → l j = true
  | 0, _, _, _, j, hj => by omega
  | m + 1, S, hS, hc, j, hj => by
    simp only [coverDn, Bool.and_eq_true] at hc
    obtain ⟨x, hx, hk⟩ := List.any_eq_true.1 hc.1
    have hm := hS x hx m hk
    rcases Nat.lt_or_ge j m with h | h
    · refine coverDn_has hd ?_ hc.2 j h
      intro y hy k hyk
      cases ho : l1[m]? with
      | none => rw [ho] at hy; exact hS y hy k hyk
      | some o =>
        rw [ho] at hy
        simp only [List.mem_append, List.mem_singleton] at hy
        rcases hy with hy | rfl
        · exact hS y hy k hyk
        · exact hd m o ho hm k hyk
    · rw [show j = m from by omega]; exact hm
/-- The first of them waits for all before it, each other one for the one before it. -/
def waits1 (l1 : List Oper) (m : Nat) (o : Oper) (i : Nat) : Bool := match Nat.beq i m with
  | true => coverDn l1 i [o.after.toList]
  | false => hasE o.after.toList (i - 1)
def waitAll (l1 : List Oper) (m : Nat) : Nat → List Oper → Bool
  | _, [] => true
  | i, o :: l => waits1 l1 m o i && waitAll l1 m (i + 1) l
def freshIn (E : Env) : List Tmp → Bool
  | [] => true
  | d :: l => (match lk E d with | none => true | some _ => false) && freshIn E l
def drawOk (E : Env) (m : Nat) (l1 l2 : List Oper) : Bool :=
  backAll 0 l1 && waitAll l1 m m l2 && backAll m l2 && noDup (dstsOf l1) && freshIn E (dstsOf l1) && Nat.beq l1.length m

theorem backAll_at : ∀ {l : List Oper} {i k : Nat} {o : Oper}, backAll i l = true → l[k]? = some o → edgesBack o (i + k) = true
  | [], _, _, _, _, h => by simp at h
  | o :: l, i, 0, o', hb, h => by simp at h; subst h; simp [backAll] at hb; exact hb.1
  | o :: l, i, k + 1, o', hb, h => by
    simp [backAll] at hb h
    have := backAll_at (k := k) hb.2 h
    rw [show i + (k + 1) = i + 1 + k from by omega]; exact this
theorem waitAll_at {l1 : List Oper} {m : Nat} : ∀ {l : List Oper} {i k : Nat} {o : Oper}, waitAll l1 m i l = true → l[k]? = some o → waits1 l1 m o (i + k) = true
  | [], _, _, _, _, h => by simp at h
  | o :: l, i, 0, o', hb, h => by simp at h; subst h; simp [waitAll] at hb; exact hb.1
  | o :: l, i, k + 1, o', hb, h => by
    simp [waitAll] at hb h
    have := waitAll_at (k := k) hb.2 h
    rw [show i + (k + 1) = i + 1 + k from by omega]; exact this
theorem waits1_prev {l1 : List Oper} {m i : Nat} {o : Oper} (h : waits1 l1 m o i = true) (hi : m < i) : hasE o.after.toList (i - 1) = true := by
  unfold waits1 at h
  have : Nat.beq i m = false := by
    cases hb : Nat.beq i m with
    | false => rfl
    | true => have := Nat.eq_of_beq_eq_true hb; omega
  rw [this] at h; exact h
theorem waits1_all {l1 : List Oper} {m : Nat} {o : Oper} (h : waits1 l1 m o m = true) : coverDn l1 m [o.after.toList] = true := by
  unfold waits1 at h
  rw [Nat.beq_refl] at h; exact h
theorem dstsOf_mem : ∀ {l : List Oper} {k : Nat} {o : Oper} {d : Tmp}, l[k]? = some o → o.dst = some d → d ∈ dstsOf l
  | [], _, _, _, h, _ => by simp at h
  | o :: l, 0, o', d, h, hd => by simp at h; subst h; simp [dstsOf, hd]
  | o :: l, k + 1, o', d, h, hd => by
    simp at h
    have := dstsOf_mem h hd
    simp only [dstsOf]; cases o.dst <;> simp [this]
theorem noDup_ne : ∀ {l : List Oper} {j k : Nat} {o o' : Oper} {d d' : Tmp}, noDup (dstsOf l) = true → l[j]? = some o → l[k]? = some o' → j ≠ k → o.dst = some d → o'.dst = some d' → d ≠ d'
  | [], _, _, _, _, _, _, _, h, _, _, _, _ => by simp at h
  | x :: l, 0, 0, _, _, _, _, _, _, _, hne, _, _ => absurd rfl hne
  | x :: l, 0, k + 1, o, o', d, d', hn, h, h', _, hd, hd' => by
    simp at h h'; subst h
    simp only [dstsOf, hd, noDup, Bool.and_eq_true, Bool.not_eq_true'] at hn
    intro e; subst e
    have hm := dstsOf_mem h' hd'
    have : ((dstsOf l).any fun x => Nat.beq x d) = true := List.any_eq_true.2 ⟨d, hm, Nat.beq_refl d⟩
    rw [this] at hn; cases hn.1
  | x :: l, j + 1, 0, o, o', d, d', hn, h, h', _, hd, hd' => by
    simp at h h'; subst h'
    simp only [dstsOf, hd', noDup, Bool.and_eq_true, Bool.not_eq_true'] at hn
    intro e; subst e
    have hm := dstsOf_mem h hd
    have : ((dstsOf l).any fun x => Nat.beq x d) = true := List.any_eq_true.2 ⟨d, hm, Nat.beq_refl d⟩
    rw [this] at hn; cases hn.1
  | x :: l, j + 1, k + 1, o, o', d, d', hn, h, h', hne, hd, hd' => by
    simp at h h'
    refine noDup_ne (l := l) ?_ h h' (by omega) hd hd'
    simp only [dstsOf] at hn
    split at hn
    · simp [noDup] at hn; exact hn.2
    · exact hn
theorem freshIn_none {E : Env} : ∀ {l : List Tmp} {d : Tmp}, freshIn E l = true → d ∈ l → lk E d = none
  | [], _, _, h => by simp at h
  | x :: l, d, hf, h => by
    simp only [freshIn, Bool.and_eq_true] at hf
    simp only [List.mem_cons] at h
    rcases h with rfl | h
    · cases hl : lk E d with
      | none => rfl
      | some v => simp [hl] at hf
    · exact freshIn_none hf.2 h

theorem mem_ready' {ops : Array Oper} {listed : Array Bool} {i : Nat} (hs : listed.size = ops.size) (h : i ∈ Region.ready .any ops listed) :
    i < ops.size ∧ lf listed i = false ∧ ∃ o, ops[i]? = some o ∧ ∀ e ∈ o.after, Region.binds .any e = true → lf listed e.on = true := by
  obtain ⟨h1, o, h2, h3⟩ := mem_ready.1 h
  have hi : i < ops.size := by
    rcases Nat.lt_or_ge i ops.size with h | h
    · exact h
    · simp [Array.getElem?_eq_none h] at h2
  refine ⟨hi, ?_, o, h2, h3⟩
  unfold lf
  simp only [Array.getD_eq_getD_getElem?] at h1 ⊢
  have : listed[i]? = some listed[i] := Array.getElem?_eq_getElem (by omega)
  rw [this] at h1 ⊢; exact h1

theorem ready_of {ops : Array Oper} {listed : Array Bool} {i : Nat} {o : Oper} (hs : listed.size = ops.size) (ho : ops[i]? = some o) (hl : lf listed i = false) (ha : ∀ e ∈ o.after, Region.binds .any e = true → lf listed e.on = true) :
    i ∈ Region.ready .any ops listed := by
  have hi : i < ops.size := by
    rcases Nat.lt_or_ge i ops.size with h | h
    · exact h
    · simp [Array.getElem?_eq_none h] at ho
  refine mem_ready.2 ⟨?_, o, ho, ha⟩
  unfold lf at hl
  simp only [Array.getD_eq_getD_getElem?] at hl ⊢
  have : listed[i]? = some listed[i] := Array.getElem?_eq_getElem (by omega)
  rw [this] at hl ⊢; exact hl

/-- From m on the order is the text's. -/
theorem any_of_tail {D : List Deferred} {P : Program} {ops : Array Oper} {Q : Exit → Act → World → Prop} {l1 : List Oper} {m : Nat} (hw : ∀ i o, m ≤ i → ops[i]? = some o → waits1 l1 m o i = true ∧ edgesBack o i = true) :
    ∀ (fuel k : Nat) (listed : Array Bool) (a : Act) (w : World), fuel + k = ops.size → m ≤ k → listed.size = ops.size → (∀ j, j < ops.size → lf listed j = decide (j < k)) →
      wpOpsIn (fen D) 0 P ops Q (List.range' k fuel) a w → wpAnyIn (fen D) 0 P .any ops Q fuel listed a w := by
  intro fuel
  induction fuel with
  | zero =>
    intro k listed a w hk _ hs hl h
    refine ⟨?_, by simpa [wpOpsIn] using h⟩
    cases hr : Region.ready .any ops listed with
    | nil => rfl
    | cons i r =>
      have := mem_ready' hs (i := i) (by rw [hr]; exact .head _)
      rw [hl i this.1] at this
      have h2 := this.2.1
      simp at h2
      omega
  | succ fuel ih =>
    intro k listed a w hk hm hs hl h
    rw [List.range'_succ, wpOpsIn_cons] at h
    have hkN : k < ops.size := by omega
    have hok : ops[k]? = some ops[k] := Array.getElem?_eq_getElem hkN
    have hrk : k ∈ Region.ready .any ops listed := by
      refine ready_of hs hok (by rw [hl k hkN]; simp) ?_
      intro e he hb
      have := (hw k _ hm hok).2
      simp only [edgesBack, List.all_eq_true] at this
      have := this e (by simpa using he)
      simp only [hb, Bool.not_true, Bool.false_or] at this
      have hlt : e.on < k := by
        have := Nat.le_of_ble_eq_true this
        omega
      rw [hl e.on (by omega)]; simpa using hlt
    refine ⟨fun hn => by rw [hn] at hrk; simp at hrk, ?_⟩
    intro i hi
    obtain ⟨h1, h2, o, h3, h4⟩ := mem_ready' hs hi
    have hik : i = k := by
      rw [hl i h1] at h2
      have hge : k ≤ i := by simp at h2; omega
      rcases Nat.lt_or_ge k i with hlt | hge'
      · exfalso
        have hw' := (hw i o (by omega) h3).1
        obtain ⟨e, he, hon, hb⟩ := hasE_mem (waits1_prev hw' (by omega))
        have := h4 e (by simpa using he) hb
        rw [hon, hl (i - 1) (by omega)] at this
        simp at this
        omega
      · omega
    subst hik
    refine wpOpIn_mono (fun a' w' hh => ih (i + 1) _ a' w' (by omega) (by omega) (by simpa using hs) ?_ hh) h
    intro j hj
    rw [lf_set (by omega), hl j hj]
    by_cases e : j = i
    · simp [e]
    · rw [if_neg e]; simp; omega

section
variable {P : Program} {n : Nat} {ops : Array Oper} {E : Env} {D : List Deferred} {R : List SL} {h : PH} {Q : Exit → S → Prop}

theorem av_ok {a : Act} {after : List Edge} {dst : Nat → Option Tmp} {sp : Nat → Sp} {vs : Nat → Value} {k : Nat} (hE : EnvOk n E D a)
    (hv : ∀ j, j < k → hasE after j = true → (∀ v, sp j = .val v → vs j = v) ∧ ∀ d, dst j = some d → a.tmps[d]? = some (vs j)) : EnvOk n (av after vs (dnOf dst sp k) ++ E) D a := by
  refine ⟨hE.1, hE.2.1, fun t v hl => ?_⟩
  rcases lk_append hl with hl | hl
  · obtain ⟨j, s, hm, hh, hx⟩ := av_lk hl
    obtain ⟨hj, hd, rfl⟩ := dnOf_mem hm
    obtain ⟨h1, h2⟩ := hv j hj hh
    have := h2 t hd.symm
    cases hs : sp j with
    | val u => rw [hs] at hx; simp at hx; rw [hx, ← h1 u hs]; exact this
    | opq A C O => rw [hs] at hx; simp at hx; rw [hx]; exact this
  · exact hE.2.2 t v hl

/-- Operations without order among others: all but that their slots are new. -/
def drawOk1 (m : Nat) (l1 l2 : List Oper) : Bool :=
  backAll 0 l1 && waitAll l1 m m l2 && backAll m l2 && noDup (dstsOf l1) && Nat.beq l1.length m
/-- Who lays a slot that is known lays what lies there. -/
def ovr (E : Env) : Done → Prop
  | [] => True
  | (_, some d, s) :: dn => (match lk E d with | none => True | some u => s = .val u) ∧ ovr E dn
  | (_, none, _) :: dn => ovr E dn
theorem ovr_mem {E : Env} {j d : Nat} {s : Sp} {u : Value} : ∀ {dn : Done}, ovr E dn → (j, some d, s) ∈ dn → lk E d = some u → s = .val u
  | [], _, h, _ => by simp at h
  | (i, some d', s') :: dn, h, hm, hl => by
    rcases List.mem_cons.1 hm with e | hm
    · cases e
      have := h.1
      rw [hl] at this
      exact this
    · exact ovr_mem h.2 hm hl
  | (i, none, s') :: dn, h, hm, hl => by
    rcases List.mem_cons.1 hm with e | hm
    · cases e
    · exact ovr_mem (dn := dn) h hm hl
theorem dnOf_has {dst : Nat → Option Tmp} {sp : Nat → Sp} {i : Nat} : ∀ {k : Nat}, i < k → (i, dst i, sp i) ∈ dnOf dst sp k
  | 0, h => by omega
  | k + 1, h => by
    simp only [dnOf, List.mem_cons]
    by_cases e : i = k
    · subst e; exact .inl rfl
    · exact .inr (dnOf_has (by omega))
theorem RG_mono {P : Program} {n : Nat} {ops : Array Oper} {E0 : Env} {D : List Deferred} {R : List SL} {h : PH} {K K' : Done → Prop} (hk : ∀ dn, K dn → K' dn) : ∀ {l : List Oper} {i : Nat} {dn : Done}, RG P n ops E0 D R h K i l dn → RG P n ops E0 D R h K' i l dn
  | [], _, _, H => hk _ H
  | _ :: _, _, _, ⟨sp, ho, H⟩ => ⟨sp, ho, RG_mono hk H⟩

/-- THE RULE for a region that draws: 'm' operations in whatever order, the others behind them. -/
theorem W_drawG {id : Nat} {l1 l2 : List Oper} (m : Nat) (E0 : Env) (R1 R0 : List SL) (hP : P.follows .mixedOrders = true) (hl1 : ops.toList.take m = l1) (hl2 : ops.toList.drop m = l2)
    (hE0 : SubE E E0) (hok : drawOk1 m l1 l2 = true)
    (hg : RG P n ops E0 D R0 h (fun dn => (R.Perm (allC dn ++ (R0 ++ R1)) ∧ ((∀ vs h', le h h' → endF vs h' dn → WL P n ops l2 ⟨endE vs dn ++ E0, D, endR vs dn ++ (R0 ++ R1), h'⟩ (fun s' => Q .normal s') Q) ∨
      (∀ vs, WL P n ops l2 ⟨endE vs dn ++ E0, D, endR vs dn ++ (R0 ++ R1), h⟩ (fun s' => Q .normal s') Q))) ∧ (freshIn E0 (dstsOf l1) = true ∨ ovr E0 dn)) 0 l1 []) :
    W P n (.region id ops true) ⟨E, D, R, h⟩ Q := by
  simp only [drawOk1, Bool.and_eq_true] at hok
  obtain ⟨⟨⟨⟨hb1, hw2⟩, hb2⟩, hnd⟩, hlen⟩ := hok
  have hlen : l1.length = m := Nat.eq_of_beq_eq_true hlen
  let dst : Nat → Option Tmp := fun j => (l1[j]?).bind (·.dst)
  have at1 : ∀ k o, l1[k]? = some o → ops[k]? = some o := fun k o hk => by
    rw [← Array.getElem?_toList]
    rw [← hl1, List.getElem?_take] at hk
    split at hk <;> simp_all
  have at1' : ∀ k o, k < m → ops[k]? = some o → l1[k]? = some o := fun k o hk ho => by
    rw [← hl1, List.getElem?_take, if_pos hk, Array.getElem?_toList]; exact ho
  have at2 : ∀ i o, m ≤ i → ops[i]? = some o → waits1 l1 m o i = true ∧ edgesBack o i = true := fun i o hi ho => by
    have hx : l2[i - m]? = some o := by
      rw [← hl2, List.getElem?_drop, Array.getElem?_toList, show m + (i - m) = i from by omega]; exact ho
    have a := waitAll_at hw2 hx
    have b := backAll_at hb2 hx
    rw [show m + (i - m) = i from by omega] at a b
    exact ⟨a, b⟩
  obtain ⟨sp, _, hob, hK⟩ := RG_all (dst := dst) l1 0 (fun _ => .val undef) (fun k o hk => by simp [dst, hk]) hg
  simp only [Nat.zero_add, hlen] at hob hK
  obtain ⟨⟨hR, hK⟩, hfr⟩ := hK
  intro κ h0 f a w hf ha hw
  refine wpIn_region_any hP ?_
  have ha0 : EnvOk n E0 D a := ha.sub hE0
  have hh0 : le h0 h := hw.h_le
  -- the invariant
  have key : ∀ (fuel : Nat) (listed : Array Bool) (a : Act) (w : World) (vs : Nat → Value) (hc : PH), Dc l1 (lf listed) → cntU (lf listed) ops.size = fuel → listed.size = ops.size → (∀ j, m ≤ j → lf listed j = false) → le h hc →
      EnvOk n E0 D a → (∀ j, j < m → lf listed j = true → (sp j).holds (vs j) hc ∧ ∀ d, dst j = some d → a.tmps[d]? = some (vs j)) → St κ h0 f (pool sp vs (lf listed) m ++ (R0 ++ R1)) hc w →
      wpAnyIn (fen D) 0 P .any ops (fun e a' w' => e ≠ .outgrown ∧ ∃ s', EnvOk n s'.E s'.D a' ∧ (St κ h0 f s'.R s'.h w' ∧ roOf s'.D = roOf D) ∧ Q e s') fuel listed a w := by
    intro fuel
    have hN : m ≤ ops.size := by rw [← hlen, ← hl1, List.length_take, Array.length_toList]; omega
    have stage2 : ∀ (listed : Array Bool) (a : Act) (w : World) (vs : Nat → Value) (hc : PH) (fuel : Nat), cntU (lf listed) ops.size = fuel → listed.size = ops.size → (∀ j, m ≤ j → lf listed j = false) → le h hc →
        EnvOk n E0 D a → (∀ j, j < m → lf listed j = true → (sp j).holds (vs j) hc ∧ ∀ d, dst j = some d → a.tmps[d]? = some (vs j)) → St κ h0 f (pool sp vs (lf listed) m ++ (R0 ++ R1)) hc w →
        (∀ j, j < m → lf listed j = true) → wpAnyIn (fen D) 0 P .any ops (fun e a' w' => e ≠ .outgrown ∧ ∃ s', EnvOk n s'.E s'.D a' ∧ (St κ h0 f s'.R s'.h w' ∧ roOf s'.D = roOf D) ∧ Q e s') fuel listed a w := by
      intro listed a w vs hc fuel hcnt hs hge hle ha hv hst hall
      have hcN : cntU (lf listed) ops.size = ops.size - m := by
        have aux : ∀ k, m ≤ k → cntU (lf listed) k = k - m := by
          intro k hk
          induction k with
          | zero => simp [cntU]
          | succ k ih =>
            rcases Nat.lt_or_ge k m with h' | h'
            · have hkm : k + 1 = m := by omega
              have : ∀ i, i ≤ m → cntU (lf listed) i = 0 := by
                intro i hi
                induction i with
                | zero => rfl
                | succ i ih2 => simp only [cntU, ih2 (by omega), hall i (by omega), if_true]
              rw [hkm, this m (Nat.le_refl _)]; omega
            · simp only [cntU, ih h', hge k h']; simp; omega
        exact aux _ hN
      refine any_of_tail at2 fuel m listed a w (by omega) (Nat.le_refl _) hs ?_ ?_
      · intro j hj
        rcases Nat.lt_or_ge j m with h' | h'
        · rw [hall j h']; simp [h']
        · rw [hge j h']; simp; omega
      · rw [pool_all (dst := dst) hall] at hst
        have hae : EnvOk n (endE vs (dnOf dst sp m) ++ E0) D a := by
          refine ⟨ha.1, ha.2.1, fun t v hl => ?_⟩
          rcases lk_append hl with hl | hl
          · obtain ⟨j, s, hm, hx⟩ := endE_lk hl
            obtain ⟨hj, hd, rfl⟩ := dnOf_mem hm
            obtain ⟨hho, hd'⟩ := hv j hj (hall j hj)
            have := hd' t hd.symm
            cases hs : sp j with
            | val u => rw [hs] at hx hho; simp at hx; rw [hx]; simp only [Sp.holds] at hho; rw [← hho]; exact this
            | opq A C O => rw [hs] at hx; simp at hx; rw [hx]; exact this
          · exact ha.2.2 t v hl
        have hT : Then (fun s' => Q .normal s') Q = Q := by funext e s'; cases e <;> rfl
        have hfl : fuel = l2.length := by rw [← hl2, List.length_drop, Array.length_toList]; omega
        rcases hK with hK | hK
        · have := hK vs hc hle (endF_of fun j d s hm => by
            obtain ⟨hj, _, rfl⟩ := dnOf_mem hm
            exact (hv j hj (hall j hj)).1) κ h0 f a w hf hae hst m hl2
          rw [hT] at this
          rw [hfl]; exact this
        · have := hK vs κ h0 f a w hf hae (St.weaken hh0 hle hst) m hl2
          rw [hT] at this
          rw [hfl]; exact this
    induction fuel with
    | zero =>
      intro listed a w vs hc _ hcnt hs hge hle ha hv hst
      exact stage2 listed a w vs hc 0 hcnt hs hge hle ha hv hst fun j hj => cntU_zero hcnt j (by omega)
    | succ fuel ih =>
      intro listed a w vs hc hdc hcnt hs hge hle ha hv hst
      by_cases hall : ∀ j, j < m → lf listed j = true
      · exact stage2 listed a w vs hc _ hcnt hs hge hle ha hv hst hall
      · -- somebody of the first ones may come up
        have hmin : ∃ j, j < m ∧ lf listed j = false ∧ ∀ i, i < j → lf listed i = true := by
          have : ∀ k, k ≤ m → (∀ j, j < k → lf listed j = true) ∨ ∃ j, j < m ∧ lf listed j = false ∧ ∀ i, i < j → lf listed i = true := by
            intro k hk
            induction k with
            | zero => exact .inl fun j hj => by omega
            | succ k ih2 =>
              rcases ih2 (by omega) with h' | h'
              · cases hl : lf listed k with
                | true =>
                  refine .inl ?_
                  intro j hj
                  by_cases h2 : j < k
                  · exact h' j h2
                  · rw [show j = k from by omega]; exact hl
                | false => exact .inr ⟨k, by omega, hl, h'⟩
              · exact .inr h'
          rcases this m (Nat.le_refl _) with h' | h'
          · exact absurd h' hall
          · exact h'
        obtain ⟨j0, hj0, hl0, hbelow⟩ := hmin
        have hr0 : j0 ∈ Region.ready .any ops listed := by
          have ho : ops[j0]? = some ops[j0] := Array.getElem?_eq_getElem (by omega)
          refine ready_of hs ho hl0 ?_
          intro e he hb
          have := backAll_at hb1 (at1' j0 _ hj0 ho)
          simp only [edgesBack, List.all_eq_true, Nat.zero_add] at this
          have := this e (by simpa using he)
          simp only [hb, Bool.not_true, Bool.false_or] at this
          exact hbelow _ (Nat.lt_of_succ_le (Nat.le_of_ble_eq_true this))
        refine ⟨fun hn => by rw [hn] at hr0; simp at hr0, ?_⟩
        intro i hi
        obtain ⟨hiN, hli, o, ho, hafter⟩ := mem_ready' hs hi
        have him : i < m := by
          rcases Nat.lt_or_ge i m with h' | h'
          · exact h'
          · exfalso
            have hat2 := (at2 i o h' ho).1
            rcases Nat.lt_or_ge m i with h2 | h2
            · obtain ⟨e, he, hon, hb⟩ := hasE_mem (waits1_prev hat2 h2)
              have := hafter e (by simpa using he) hb
              rw [hon, hge (i - 1) (by omega)] at this; cases this
            · have him : i = m := by omega
              subst him
              have := coverDn_has hdc (S := [o.after.toList]) (fun x hx k hk => by
                simp only [List.mem_singleton] at hx
                subst hx
                obtain ⟨e, he, hon, hb⟩ := hasE_mem hk
                rw [← hon]; exact hafter e (by simpa using he) hb) (waits1_all hat2) j0 hj0
              rw [hl0] at this; cases this
        have hol := at1' i o him ho
        obtain ⟨hdn, hst1, hcase⟩ := hob i o hol
        have hdst : dst i = o.dst := by simp [dst, hol]
        have hafterj : ∀ j, hasE o.after.toList j = true → lf listed j = true := fun j hj => by
          obtain ⟨e, he, hon, hb⟩ := hasE_mem hj
          rw [← hon]; exact hafter e (by simpa using he) hb
        have hhold : ∀ j, j < i → hasE o.after.toList j = true → (∀ v, sp j = .val v → vs j = v) ∧ ∀ d, dst j = some d → a.tmps[d]? = some (vs j) := fun j hj hh => by
          obtain ⟨x, y⟩ := hv j (by omega) (hafterj j hh)
          exact ⟨fun v hs => by rw [hs] at x; exact x, y⟩
        have hav : EnvOk n (av o.after.toList vs (dnOf dst sp i) ++ E0) D a := av_ok ha hhold
        obtain ⟨X, hX1, hXv⟩ := pool_split (sp := sp) (vs := vs) (l := lf listed) (i := i) (k := m) him
        rw [hli] at hX1
        -- what is behind it
        have after_ : ∀ (v : Value) (h'' : PH) (w' : World), le hc h'' → (sp i).holds v h'' → St κ h0 f ((sp i).O v ++ (X ++ (R0 ++ R1))) h'' w' →
            wpAnyIn (fen D) 0 P .any ops (fun e a' w' => e ≠ .outgrown ∧ ∃ s', EnvOk n s'.E s'.D a' ∧ (St κ h0 f s'.R s'.h w' ∧ roOf s'.D = roOf D) ∧ Q e s') fuel (listed.setIfInBounds i true) (a.put o.dst v) w' := by
          intro v h'' w' hle' hho hs'
          have elf : lf (listed.setIfInBounds i true) = fun j => if j = i then true else lf listed j := funext fun j => lf_set (by omega) j
          refine ih (listed.setIfInBounds i true) (a.put o.dst v) w' (fun j => if j = i then v else vs j) h'' ?_ ?_ (by simpa using hs) ?_ (hle.trans hle') ?_ ?_ ?_
          · intro j o' ho' hj k hk
            rw [elf] at hj ⊢
            have hlk : lf listed k = true := by
              by_cases e : j = i
              · subst e
                rw [hol] at ho'
                cases ho'
                exact hafterj k hk
              · simp only [if_neg e] at hj
                exact hdc j o' ho' hj k hk
            by_cases e2 : k = i
            · simp only [if_pos e2]
            · simp only [if_neg e2]; exact hlk
          · have := cntU_set (l := lf listed) hli (k := ops.size) hiN
            rw [elf]; omega
          · intro j hj
            rw [elf]; simp only [if_neg (by omega : ¬ j = i)]; exact hge j hj
          · -- the slots that were known are no one's of the first ones
            have hp := ha.put o.dst v (dOk_lt hdn)
            refine ⟨hp.1, hp.2.1, fun t u hl => ?_⟩
            cases hod : o.dst with
            | none => simp only [Act.put]; exact ha.2.2 t u hl
            | some d =>
              by_cases hdt : d = t
              · subst hdt
                rcases hfr with hfr | hfr
                · rw [freshIn_none hfr (dstsOf_mem hol hod)] at hl; cases hl
                · have hm := dnOf_has (dst := dst) (sp := sp) him
                  rw [hdst, hod] at hm
                  have hsp := ovr_mem hfr hm hl
                  rw [hsp] at hho
                  have hvu : v = u := hho
                  subst hvu
                  simp only [Act.put]
                  rw [Array.getElem?_setIfInBounds_self]
                  have hdl := dOk_lt hdn d hod
                  simp [ha.1, hdl]
              · simp only [Act.put]
                rw [Array.getElem?_setIfInBounds_ne hdt]; exact ha.2.2 t u hl
          · intro j hj hlj
            rw [elf] at hlj
            by_cases e : j = i
            · subst e
              simp only [if_true]
              refine ⟨hho, fun d hd => ?_⟩
              rw [hdst] at hd
              simp only [hd, Act.put]
              rw [Array.getElem?_setIfInBounds_self]
              have := dOk_lt hdn d hd
              simp [ha.1, this]
            · simp only [if_neg e] at hlj ⊢
              obtain ⟨x, y⟩ := hv j hj hlj
              have hstays : (sp j).stays := by
                have hoj : l1[j]? = some l1[j] := List.getElem?_eq_getElem (by omega)
                exact (hob j _ hoj).2.1
              refine ⟨?_, fun d hd => ?_⟩
              · cases hs2 : sp j with
                | val u => rw [hs2] at x; exact x
                | opq A C O => rw [hs2] at x hstays; exact hstays _ _ _ hle' x
              · have hy := y d hd
                cases hod : o.dst with
                | none => simp only [Act.put]; exact hy
                | some d' =>
                  have hoj : l1[j]? = some l1[j] := List.getElem?_eq_getElem (by omega)
                  have hdj : l1[j].dst = some d := by have : dst j = l1[j].dst := by simp [dst, hoj]
                                                      rw [← this]; exact hd
                  have hne : d' ≠ d := noDup_ne hnd hol hoj (Ne.symm e) hod hdj
                  simp only [Act.put]
                  rw [Array.getElem?_setIfInBounds_ne hne]; exact hy
          · refine hs'.perm ?_
            rw [elf, ← List.append_assoc]
            exact ((hXv v true).symm).append_right _
        rcases hcase with ⟨hsp, hoff⟩ | ⟨hon, hex⟩
        · -- it is not wanted
          have hwant := wanted_of_gd hav (hoff vs)
          unfold wpOpIn
          simp only [ho, hwant, Bool.false_eq_true, if_false]
          refine ⟨fun _ _ => trivial, ?_⟩
          refine after_ undef hc w (le.refl _) (by rw [hsp]; rfl) ?_
          refine hst.perm ?_
          refine (hX1.append_right _).trans ?_
          rw [hsp]; simp [Sp.C, Sp.O]
        · have hwant := wanted_of_gd hav (hon vs)
          unfold wpOpIn
          simp only [ho, hwant, if_true]
          have hp1 := hX1
          have hfc : fc o.after.toList vs hc (dnOf dst sp i) := fc_of fun j d s hm hh => by
            obtain ⟨hj, _, rfl⟩ := dnOf_mem hm
            exact (hv j (by omega) (hafterj j hh)).1
          have hX2 : (pool sp vs (lf listed) m ++ (R0 ++ R1)).Perm (((sp i).C ++ R0) ++ (X ++ R1)) := by
            refine (hp1.append_right _).trans ?_
            simp only [List.append_assoc]
            refine List.Perm.append_left _ ?_
            simp only [← List.append_assoc]
            exact List.perm_append_comm.append_right _
          have hx := Exec_frame (E' := av o.after.toList vs (dnOf dst sp i) ++ E0) (hex vs hc hle hfc) (SubE.refl _) hX2 (le.refl _)
          refine hx κ h0 f a w hf hav hst _ _ ?_ ?_
          · rintro v R' h'' w' hle' hs' ⟨R1', hh1, rfl, _, hh2, u, hu, hho, hsub⟩
            simp only [Ending.returned.injEq] at hu
            subst hu
            have hho' : (sp i).holds v h'' := by
              cases hs2 : sp i with
              | val u => rw [hs2] at hho; exact hho
              | opq A C O => rw [hs2] at hho hst1; exact hst1 _ _ _ hh2 hho
            refine after_ v h'' w' hle' hho' ?_
            obtain ⟨R2, hR2⟩ := hsub
            refine (hs'.sub (R1 := (sp i).O v ++ R0 ++ (X ++ R1)) ⟨R2, ?_⟩).perm ?_
            · refine (hR2.append_right _).trans ?_
              simp only [List.append_assoc]
              refine List.Perm.append_left _ (List.Perm.append_left _ ?_)
              rw [← List.append_assoc X R1 R2]
              exact List.perm_append_comm
            · simp only [List.append_assoc]
              refine List.Perm.append_left _ ?_
              simp only [← List.append_assoc]
              exact List.perm_append_comm.append_right _
          · rintro ch R' h'' w' _ _ ⟨R1', hh1, rfl, _, _, u, hu, _⟩
            cases hu
  have hl0 : ∀ j, lf (Array.replicate ops.size false) j = false := fun j => by
    unfold lf
    simp only [Array.getD_eq_getD_getElem?, Array.getElem?_replicate]
    split <;> rfl
  refine key ops.size (Array.replicate ops.size false) a _ (fun _ => undef) h (fun j o _ hj => by rw [hl0] at hj; cases hj) ?_ (by simp) (fun j _ => hl0 j) (le.refl _) ha0 ?_ ?_
  · have : ∀ k, cntU (lf (Array.replicate ops.size false)) k = k := by
      intro k
      induction k with
      | zero => rfl
      | succ k ih => simp [cntU, ih, hl0]
    exact this _
  · intro j _ hj; rw [hl0] at hj; cases hj
  · rw [pool_none (dst := dst) fun j _ => hl0 j]
    exact ((St.perm hR hw).drawn _)
theorem W_draw {id : Nat} {l1 l2 : List Oper} (m : Nat) (E0 : Env) (R1 R0 : List SL) (hP : P.follows .mixedOrders = true) (hl1 : ops.toList.take m = l1) (hl2 : ops.toList.drop m = l2)
    (hE0 : SubE E E0) (hok : drawOk E0 m l1 l2 = true)
    (hg : RG P n ops E0 D R0 h (fun dn => R.Perm (allC dn ++ (R0 ++ R1)) ∧ ((∀ vs h', le h h' → endF vs h' dn → WL P n ops l2 ⟨endE vs dn ++ E0, D, endR vs dn ++ (R0 ++ R1), h'⟩ (fun s' => Q .normal s') Q) ∨
      (∀ vs, WL P n ops l2 ⟨endE vs dn ++ E0, D, endR vs dn ++ (R0 ++ R1), h⟩ (fun s' => Q .normal s') Q))) 0 l1 []) :
    W P n (.region id ops true) ⟨E, D, R, h⟩ Q := by
  have hok' := hok
  simp only [drawOk, Bool.and_eq_true] at hok'
  obtain ⟨⟨⟨⟨⟨hb1, hw2⟩, hb2⟩, hnd⟩, hfr⟩, hlen⟩ := hok'
  refine W_drawG m E0 R1 R0 hP hl1 hl2 hE0 (by simp only [drawOk1, Bool.and_eq_true]; exact ⟨⟨⟨⟨hb1, hw2⟩, hb2⟩, hnd⟩, hlen⟩) (RG_mono (fun dn hk => ⟨hk, .inl hfr⟩) hg)
end
end Go.Par

/- Engine, part 7: memory: boxes, loads, stores, fields, slices that are only read. It speaks of no program. -/
namespace Go.Par
open Go PH

/-! What a type is -/
def isA (P : Program) (t : TypeId) : Option Bool :=
  match P.underlying t with
  | some (.struct _) => some true
  | some (.array _ _) => some true
  | some _ => some false
  | none => none
def szOf (P : Program) (t : TypeId) : Option Nat := (P.info? t).map (·.size)
def byOf (P : Program) (t : TypeId) : Option Nat := (P.info? t).map (·.bytes)
def zeOf (P : Program) (t : TypeId) : Option Value := (P.info? t).bind (·.zero)
def slOf (P : Program) (t : TypeId) : Option TypeId :=
  match P.underlying t with
  | some (.slice e) => some e
  | _ => none
def arOf (P : Program) (t : TypeId) : Option (Nat × TypeId) :=
  match P.underlying t with
  | some (.array n e) => some (n, e)
  | _ => none
/-- A struct's field: its place and type. -/
def fdOf (P : Program) (t : TypeId) (i : Nat) : Option (Nat × TypeId) :=
  match P.underlying t with
  | some (.struct fs) => (match fs.toList[i]? with
    | some f => some (f.offset, f.type)
    | none => none)
  | _ => none

section
variable {P : Program} {t : TypeId} (w : World)
theorem run_underlying {d : TypeDesc} (h : P.underlying t = some d) : (underlying t).run P w = .ok d w := by simp [underlying, h]
theorem run_isAgg {b : Bool} (h : isA P t = some b) : (isAgg t).run P w = .ok b w := by
  unfold isA at h
  split at h
  · rename_i hu; simp at h; subst h; simp [isAgg, run_underlying w hu]
  · rename_i hu; simp at h; subst h; simp [isAgg, run_underlying w hu]
  · rename_i d h1 h2 hu
    simp at h; subst h
    simp only [isAgg, Sem.run_bind, run_underlying w hu, Result.andThen_ok]
    cases d <;> simp_all
  · cases h
theorem run_sizeOf {n : Nat} (h : szOf P t = some n) : (sizeOf t).run P w = .ok n w := by
  unfold szOf at h
  cases hi : P.info? t with
  | none => simp [hi] at h
  | some i => simp [hi] at h; simp [sizeOf, typeInfo, hi, h]
theorem run_typeInfo {i : TypeInfo} (h : P.info? t = some i) : (typeInfo t).run P w = .ok i w := by simp [typeInfo, h]
theorem run_zeroValue {z : Value} (h : zeOf P t = some z) : (zeroValue t).run P w = .ok z w := by
  unfold zeOf at h
  cases hi : P.info? t with
  | none => simp [hi] at h
  | some i => simp [hi] at h; simp [zeroValue, typeInfo, hi, h]
theorem slOf_under {e : TypeId} (h : slOf P t = some e) : P.underlying t = some (.slice e) := by
  unfold slOf at h
  split at h
  · rename_i hu; simp at h; subst h; exact hu
  · cases h
theorem arOf_under {n : Nat} {e : TypeId} (h : arOf P t = some (n, e)) : P.underlying t = some (.array n e) := by
  unfold arOf at h
  split at h
  · rename_i hu; simp at h; obtain ⟨rfl, rfl⟩ := h; exact hu
  · cases h
theorem fdOf_under {i o : Nat} {ft : TypeId} (h : fdOf P t i = some (o, ft)) : ∃ fs f, P.underlying t = some (.struct fs) ∧ fs[i]? = some f ∧ f.offset = o ∧ f.type = ft := by
  unfold fdOf at h
  split at h
  · rename_i fs hu
    split at h
    · rename_i f hf
      simp at h
      exact ⟨fs, f, hu, by rw [← Array.getElem?_toList]; exact hf, h.1, h.2⟩
    · cases h
  · cases h
end

/-! Cells -/
def rd (c : List Value) : Nat → Nat → Option (List Value)
  | _, 0 => some []
  | off, n + 1 => match c[off]? with
    | some v => (match rd c (off + 1) n with
      | some vs => some (v :: vs)
      | none => none)
    | none => none
theorem rd_spec {c : List Value} : ∀ {n off : Nat} {vs : List Value}, rd c off n = some vs → vs.length = n ∧ ∀ j, j < n → c[off + j]? = vs[j]?
  | 0, off, vs, h => by simp [rd] at h; subst h; exact ⟨rfl, fun j hj => by omega⟩
  | n + 1, off, vs, h => by
    simp only [rd] at h
    split at h
    · rename_i v hv
      split at h
      · rename_i us hus
        simp at h; subst h
        obtain ⟨h1, h2⟩ := rd_spec hus
        refine ⟨by simp [h1], fun j hj => ?_⟩
        cases j with
        | zero => simpa using hv
        | succ j =>
          have := h2 j (by omega)
          rw [show off + (j + 1) = off + 1 + j from by omega]
          simpa using this
      · cases h
    · cases h
theorem rd_of {c : List Value} : ∀ {n off : Nat} {vs : List Value}, vs.length = n → (∀ j, j < n → c[off + j]? = vs[j]?) → rd c off n = some vs
  | 0, off, vs, h, _ => by simp at h; subst h; rfl
  | n + 1, off, [], h, _ => by simp at h
  | n + 1, off, v :: vs, h, H => by
    have h0 := H 0 (by omega)
    simp at h0
    have hr := rd_of (c := c) (n := n) (off := off + 1) (vs := vs) (by simpa using h) (fun j hj => by
      have := H (j + 1) (by omega)
      rw [show off + 1 + j = off + (j + 1) from by omega]
      simpa using this)
    simp [rd, h0, hr]
def wr (c : List Value) : Nat → List Value → List Value
  | _, [] => c
  | off, v :: vs => wr (c.set off v) (off + 1) vs
theorem wr_length {c : List Value} : ∀ {vs : List Value} {off : Nat}, (wr c off vs).length = c.length
  | [], _ => rfl
  | v :: vs, off => by simp only [wr]; rw [wr_length]; simp
theorem wr_get {c : List Value} : ∀ {vs : List Value} {off j : Nat}, off + vs.length ≤ c.length → (wr c off vs)[j]? = if off ≤ j ∧ j < off + vs.length then vs[j - off]? else c[j]?
  | [], off, j, _ => by simp only [wr, List.length_nil, Nat.add_zero]; rw [if_neg (by omega)]
  | v :: vs, off, j, h => by
    simp only [List.length_cons] at h
    simp only [wr]
    rw [wr_get (c := c.set off v) (vs := vs) (off := off + 1) (by simp; omega)]
    by_cases h1 : off + 1 ≤ j ∧ j < off + 1 + vs.length
    · rw [if_pos h1, if_pos (by simp; omega)]
      rw [show j - off = (j - (off + 1)) + 1 from by omega]; simp
    · by_cases h2 : j = off
      · subst h2
        rw [if_neg h1, if_pos (by simp), Nat.sub_self, List.getElem?_set_self (by omega)]; rfl
      · rw [if_neg h1, if_neg (by simp only [List.length_cons]; omega), List.getElem?_set_ne (by omega)]

def vc : Value → List Value
  | .agg cs => cs.toList
  | v => [v]
theorem vc_cells (v : Value) : v.cells = (vc v).toArray := by cases v <;> simp [Value.cells, vc]
/-- No value of several cells. -/
def flat : Value → Bool
  | .agg _ | .tuple _ => false
  | _ => true

/-! The same words, made to come out written out -/
def forceL : List Value → Option (List Value)
  | [] => some []
  | x :: r => match forceL r with
    | some r' => some (x :: r')
    | none => none
theorem forceL_eq : ∀ {l l' : List Value}, forceL l = some l' → l = l'
  | [], l', h => by simpa [forceL] using h
  | x :: r, l', h => by
    simp only [forceL] at h
    split at h
    · rename_i r' hr; simp at h; subst h; rw [forceL_eq hr]
    · cases h
def vcO : Value → Option (List Value)
  | .agg cs => forceL cs.toList
  | .tuple vs => some [.tuple vs]
  | v => some [v]
theorem vcO_eq {v : Value} {vs : List Value} (h : vcO v = some vs) : vc v = vs := by
  cases v <;> simp_all [vcO, vc] <;> exact forceL_eq h
def wr1 : List Value → Nat → Value → Option (List Value)
  | [], _, _ => none
  | _ :: r, 0, v => some (v :: r)
  | x :: r, k + 1, v => match wr1 r k v with
    | some r' => some (x :: r')
    | none => none
theorem wr1_eq : ∀ {c : List Value} {k : Nat} {v : Value} {c' : List Value}, wr1 c k v = some c' → c.set k v = c' ∧ k < c.length
  | [], _, _, _, h => by simp [wr1] at h
  | x :: r, 0, v, c', h => by simp [wr1] at h; subst h; simp
  | x :: r, k + 1, v, c', h => by
    simp only [wr1] at h
    split at h
    · rename_i r' hr; simp at h; subst h
      obtain ⟨h1, h2⟩ := wr1_eq hr
      exact ⟨by simp [h1], by simp; omega⟩
    · cases h
def wrO : List Value → Nat → List Value → Option (List Value)
  | c, _, [] => some c
  | c, off, v :: vs => match wr1 c off v with
    | some c' => wrO c' (off + 1) vs
    | none => none
theorem wrO_eq : ∀ {vs : List Value} {c : List Value} {off : Nat} {c' : List Value}, wrO c off vs = some c' → wr c off vs = c' ∧ (vs = [] ∨ off + vs.length ≤ c.length)
  | [], c, off, c', h => by simp [wrO] at h; exact ⟨by simpa [wr] using h, .inl rfl⟩
  | v :: vs, c, off, c', h => by
    simp only [wrO] at h
    split at h
    · rename_i c1 hc
      obtain ⟨h1, h2⟩ := wr1_eq hc
      obtain ⟨h3, h4⟩ := wrO_eq h
      refine ⟨by simp only [wr]; rw [h1]; exact h3, .inr ?_⟩
      rcases h4 with h4 | h4
      · subst h4; simp; omega
      · have : c1.length = c.length := by rw [← h1]; simp
        simp; omega
    · cases h

section
variable {P : Program} {w : World} {b off : Nat} {c : List Value} {t0 : TypeId} {fr : Nat × Nat}

theorem cell_at (hb : w.heap[b]? = some (.cells c.toArray t0 fr)) (j : Nat) : w.cell? ⟨b, j, none⟩ = c[j]? := by simp [World.cell?, hb]
theorem add_spot (b off j : Nat) : (⟨b, off, none⟩ : Addr).add j = ⟨b, off + j, none⟩ := by
  unfold Addr.add; split
  · rename_i h; subst h; rfl
  · rfl
theorem run_load_at {j : Nat} {v : Value} (hb : w.heap[b]? = some (.cells c.toArray t0 fr)) (hv : c[j]? = some v) : (load ⟨b, j, none⟩).run P w = .ok v w := by
  simp [run_load, cell_at hb, hv]
theorem run_loadCells_at {n : Nat} {vs : List Value} (hb : w.heap[b]? = some (.cells c.toArray t0 fr)) (hv : rd c off n = some vs) : (loadCells ⟨b, off, none⟩ n).run P w = .ok vs.toArray w := by
  obtain ⟨h1, h2⟩ := rd_spec hv
  have := run_loadCells_list (P := P) (w := w) ⟨b, off, none⟩ vs (fun j v hj => by
    rw [add_spot, cell_at hb]
    have hlt : j < vs.length := by
      rcases Nat.lt_or_ge j vs.length with h | h
      · exact h
      · simp [List.getElem?_eq_none h] at hj
    rw [h2 j (by omega)]; exact hj)
  rw [h1] at this; exact this
theorem run_loadVar_one {t : TypeId} {v : Value} (ht : isA P t = some false) (hb : w.heap[b]? = some (.cells c.toArray t0 fr)) (hv : c[off]? = some v) : (loadVar t ⟨b, off, none⟩).run P w = .ok v w := by
  simp only [loadVar, Sem.run_bind, run_isAgg w ht, Result.andThen_ok, Bool.false_eq_true, if_false, run_load_at hb hv]
theorem run_loadVar_agg {t : TypeId} {sz : Nat} {vs : List Value} (ht : isA P t = some true) (hs : szOf P t = some sz) (hb : w.heap[b]? = some (.cells c.toArray t0 fr)) (hv : rd c off sz = some vs) :
    (loadVar t ⟨b, off, none⟩).run P w = .ok (.agg vs.toArray) w := by
  simp [loadVar, run_isAgg w ht, run_sizeOf w hs, run_loadCells_at hb hv]

/-- A world with a row's cells written anew. -/
def setRow (w : World) (b : Nat) (c : List Value) (t : TypeId) : World := { w with heap := w.heap.setIfInBounds b (.cells c.toArray t (0, 0)) }
theorem setCell_row {j : Nat} {v : Value} (hb : w.heap[b]? = some (.cells c.toArray t0 (0, 0))) : w.setCell ⟨b, j, none⟩ v = setRow w b (c.set j v) t0 := by
  have hlt : b < w.heap.size := by
    rcases Nat.lt_or_ge b w.heap.size with h | h
    · exact h
    · simp [Array.getElem?_eq_none h] at hb
  unfold World.setCell setRow
  congr 1
  apply Array.ext_getElem?
  intro k
  simp only [Array.getElem?_modify, Array.getElem?_setIfInBounds]
  by_cases e : b = k
  · subst e
    rw [if_pos rfl, if_pos rfl, hb]
    simp [hlt]
  · simp [e]
theorem setRow_heap {c' : List Value} (hb : w.heap[b]? = some (.cells c.toArray t0 (0, 0))) : (setRow w b c' t0).heap[b]? = some (.cells c'.toArray t0 (0, 0)) := by
  have hlt : b < w.heap.size := by
    rcases Nat.lt_or_ge b w.heap.size with h | h
    · exact h
    · simp [Array.getElem?_eq_none h] at hb
  simp [setRow, hlt]
theorem setRow_setRow {c1 c2 : List Value} {t1 : TypeId} : setRow (setRow w b c1 t1) b c2 t1 = setRow w b c2 t1 := by
  unfold setRow
  congr 1
  apply Array.ext_getElem?
  intro k
  simp only [Array.getElem?_setIfInBounds]
  by_cases e : b = k
  · subst e; simp
  · simp [e]
theorem setRow_same (hb : w.heap[b]? = some (.cells c.toArray t0 (0, 0))) : setRow w b c t0 = w := by
  unfold setRow
  have : w.heap.setIfInBounds b (.cells c.toArray t0 (0, 0)) = w.heap := by
    apply Array.ext_getElem?
    intro k
    simp only [Array.getElem?_setIfInBounds]
    by_cases e : b = k
    · subst e
      have hlt : b < w.heap.size := by
        rcases Nat.lt_or_ge b w.heap.size with h | h
        · exact h
        · simp [Array.getElem?_eq_none h] at hb
      simp [hlt] at hb ⊢; exact hb.symm
    · simp [e]
  rw [this]
theorem run_store_at {j : Nat} {v : Value} (hb : w.heap[b]? = some (.cells c.toArray t0 (0, 0))) (hj : j < c.length) (hv : flat v = true) : (store ⟨b, j, none⟩ v).run P w = .ok () (setRow w b (c.set j v) t0) := by
  rw [run_store _ _ _ _ _ (by cases v <;> simp_all [flat, Value.oneCell'])]
  have h1 : w.cell? ⟨b, j, none⟩ = some c[j] := by rw [cell_at hb]; exact List.getElem?_eq_getElem hj
  have h2 : w.frozen? ⟨b, j, none⟩ = false := by simp [World.frozen?, hb]
  simp [h1, h2, setCell_row hb]
theorem run_storeCells_at : ∀ {vs : List Value} {i : Nat} {w : World} {c : List Value}, w.heap[b]? = some (.cells c.toArray t0 (0, 0)) → off + i + vs.length ≤ c.length → vs.all flat = true →
    (storeCells ⟨b, off, none⟩ vs i).run P w = .ok () (setRow w b (wr c (off + i) vs) t0)
  | [], i, w, c, hb, _, _ => by simp [storeCells, wr, setRow_same hb]
  | v :: vs, i, w, c, hb, hl, hv => by
    simp only [List.length_cons] at hl
    simp only [List.all_cons, Bool.and_eq_true] at hv
    simp only [storeCells, Sem.run_bind, add_spot]
    rw [run_store_at hb (by omega) hv.1]
    simp only [Result.andThen_ok]
    rw [run_storeCells_at (setRow_heap hb) (by simp; omega) hv.2, setRow_setRow]
    simp only [wr, Nat.add_assoc]
theorem run_storeVar_at {t : TypeId} {sz : Nat} {v : Value} {vs : List Value} (hs : szOf P t = some sz) (hvs : vc v = vs) (hl : vs.length = sz) (hf : vs.all flat = true) (hb : w.heap[b]? = some (.cells c.toArray t0 (0, 0))) (ho : off + sz ≤ c.length) :
    (storeVar t ⟨b, off, none⟩ v).run P w = .ok () (setRow w b (wr c off vs) t0) := by
  subst hvs
  have h1 : v.cells.size = sz := by rw [vc_cells]; simpa using hl
  have h2 : v.cells.toList = vc v := by rw [vc_cells]
  simp only [storeVar, Sem.run_bind, run_sizeOf w hs, Result.andThen_ok, h1, ne_eq, not_true_eq_false, if_false, h2]
  have := run_storeCells_at (P := P) (off := off) (i := 0) hb (by omega) hf
  simpa using this
end

theorem St.turnRow {κ : World} {h0 f : PH} {R : List SL} {h : PH} {w : World} {i b : Nat} {c c' : List Value} {t : TypeId} (s : St κ h0 f R h w) (hi : R[i]? = some (blk b c t)) :
    St κ h0 f (R.set i (blk b c' t)) h (setRow w b c' t) := by
  have hb := s.obj_at hi
  refine s.turn hi (by simp [setRow]) rfl rfl rfl (setRow_heap hb) ?_
  intro k hk
  simp only [setRow, Array.getElem?_setIfInBounds]
  rw [if_neg (Ne.symm hk)]

def setR : List SL → Nat → SL → Option (List SL)
  | [], _, _ => none
  | _ :: r, 0, x => some (x :: r)
  | y :: r, k + 1, x => match setR r k x with
    | some r' => some (y :: r')
    | none => none
theorem setR_eq : ∀ {R : List SL} {i : Nat} {r : SL} {R' : List SL}, setR R i r = some R' → R.set i r = R'
  | [], _, _, _, h => by simp [setR] at h
  | x :: R, 0, v, c', h => by simp [setR] at h; subst h; rfl
  | x :: R, k + 1, v, c', h => by
    simp only [setR] at h
    split at h
    · rename_i r' hr; simp at h; subst h
      simp [setR_eq hr]
    · cases h
theorem idx0 {α : Type} {x : α} {l : List α} : (x :: l)[0]? = some x := rfl
theorem idx1 {α : Type} {a x : α} {l : List α} : (a :: x :: l)[1]? = some x := rfl
theorem idx2 {α : Type} {a b x : α} {l : List α} : (a :: b :: x :: l)[2]? = some x := rfl
theorem idx3 {α : Type} {a b c x : α} {l : List α} : (a :: b :: c :: x :: l)[3]? = some x := rfl
theorem idx4 {α : Type} {a b c d x : α} {l : List α} : (a :: b :: c :: d :: x :: l)[4]? = some x := rfl
theorem idx5 {α : Type} {a b c d e x : α} {l : List α} : (a :: b :: c :: d :: e :: x :: l)[5]? = some x := rfl
theorem idx6 {α : Type} {a b c d e f x : α} {l : List α} : (a :: b :: c :: d :: e :: f :: x :: l)[6]? = some x := rfl
theorem idx7 {α : Type} {a b c d e f g x : α} {l : List α} : (a :: b :: c :: d :: e :: f :: g :: x :: l)[7]? = some x := rfl

/-! What is read at a pointer, of what is known for good -/
def At (h : PH) (p : Value) (cs : List Value) : Prop :=
  ∃ b off c t fr, p = .pointer (some ⟨b, off, none⟩) ∧ h b = some (.cells (List.toArray c) t fr) ∧ ∀ j, j < cs.length → c[off + j]? = cs[j]?
theorem At.mono {h h' : PH} {p : Value} {cs : List Value} (hl : le h h') (a : At h p cs) : At h' p cs :=
  let ⟨b, off, c, t, fr, e, hb, hc⟩ := a; ⟨b, off, c, t, fr, e, hl _ _ hb, hc⟩
theorem At.of_blk {h : PH} {b : Nat} {c : List Value} {t : TypeId} {fr : Nat × Nat} (hb : h b = some (.cells c.toArray t fr)) : At h (.pointer (some ⟨b, 0, none⟩)) c := ⟨b, 0, c, t, fr, rfl, hb, fun j _ => by rw [Nat.zero_add]⟩
theorem At.front {h : PH} {p : Value} {cs : List Value} (n : Nat) (a : At h p cs) : At h p (cs.take n) := by
  obtain ⟨b, off, c, t, fr, e, hb, hc⟩ := a
  refine ⟨b, off, c, t, fr, e, hb, fun j hj => ?_⟩
  simp only [List.length_take] at hj
  rw [hc j (by omega), List.getElem?_take, if_pos (by omega)]

/-- A slice that is only read, of elements that have 'sz' cells each. -/
def Sl {α : Type} (enc : α → List Value) (sz : Nat) (h : PH) (v : Value) (l : List α) : Prop :=
  (∀ x ∈ l, (enc x).length = sz) ∧ ∃ a cap, v = .slice a l.length cap ∧ l.length ≤ cap ∧ (a = none → l = [] ∧ cap = 0) ∧
    (l = [] ∨ ∃ b off c t fr, a = some ⟨b, off, none⟩ ∧ h b = some (.cells (List.toArray c) t fr) ∧ ∀ i (hi : i < l.length) j, j < sz → c[off + i * sz + j]? = (enc l[i])[j]?)
section
variable {α : Type} {enc : α → List Value} {sz : Nat} {h h' : PH} {v : Value} {l : List α}
theorem Sl.mono (hl : le h h') (s : Sl enc sz h v l) : Sl enc sz h' v l := by
  obtain ⟨h1, a, cap, e, hc, hn, hx⟩ := s
  refine ⟨h1, a, cap, e, hc, hn, ?_⟩
  rcases hx with hx | ⟨b, off, c, t, fr, ea, hb, hj⟩
  · exact .inl hx
  · exact .inr ⟨b, off, c, t, fr, ea, hl _ _ hb, hj⟩
theorem Sl.nil : Sl enc sz h (.slice none 0 0) ([] : List α) := ⟨by simp, none, 0, rfl, Nat.le_refl _, fun _ => ⟨rfl, rfl⟩, .inl rfl⟩
theorem Sl.shape (s : Sl enc sz h v l) : ∃ a cap, v = .slice a l.length cap := let ⟨_, a, cap, e, _⟩ := s; ⟨a, cap, e⟩
theorem Sl.at (s : Sl enc sz h v l) {i : Nat} (hi : i < l.length) : ∃ b off cap, v = .slice (some ⟨b, off, none⟩) l.length cap ∧ At h (.pointer (some ⟨b, off + i * sz, none⟩)) (enc l[i]) := by
  obtain ⟨h1, a, cap, e, hc, hn, hx⟩ := s
  rcases hx with hx | ⟨b, off, c, t, fr, ea, hb, hj⟩
  · subst hx; simp at hi
  · subst ea
    have hlen := h1 l[i] (List.getElem_mem hi)
    refine ⟨b, off, cap, e, b, off + i * sz, c, t, fr, rfl, hb, fun j hj' => hj i hi j (by omega)⟩
end

section
variable {P : Program} {n : Nat} {ops : Array Oper} {l : List Oper} {o : Oper} {E : Env} {D : List Deferred} {R : List SL} {h : PH} {K : S → Prop} {Q : Exit → S → Prop}

/-! Loads -/
theorem X_load1 {x : Operand} {t t0 : TypeId} {b off i : Nat} {c : List Value} {v : Value} (ho : o.op = .load t x) (hx : ev E x = some (.pointer (some ⟨b, off, none⟩))) (hi : R[i]? = some (blk b c t0))
    (ht : isA P t = some false) (hv : c[off]? = some v) : Exec P n o ⟨E, D, R, h⟩ (Is v R h) :=
  Exec_of_run fun _ _ _ a w _ ha hw => ⟨v, R, h, w, .inl (by simp [execOp, ho, ha.ev hx, Instr.loadAt, Instr.sureAddr, run_loadVar_one ht (hw.obj_at hi) hv]), le.refl _, hw, rfl, rfl, rfl⟩
theorem X_loadA {x : Operand} {t t0 : TypeId} {b off i sz : Nat} {c vs : List Value} (ho : o.op = .load t x) (hx : ev E x = some (.pointer (some ⟨b, off, none⟩))) (hi : R[i]? = some (blk b c t0))
    (ht : isA P t = some true) (hs : szOf P t = some sz) (hv : rd c off sz = some vs) : Exec P n o ⟨E, D, R, h⟩ (Is (.agg vs.toArray) R h) :=
  Exec_of_run fun _ _ _ a w _ ha hw => ⟨_, R, h, w, .inl (by simp [execOp, ho, ha.ev hx, Instr.loadAt, Instr.sureAddr, run_loadVar_agg ht hs (hw.obj_at hi) hv]), le.refl _, hw, rfl, rfl, rfl⟩
theorem X_load1_at {x : Operand} {t : TypeId} {p : Value} {cs : List Value} {v : Value} (ho : o.op = .load t x) (hx : ev E x = some p) (hp : At h p cs)
    (ht : isA P t = some false) (hv : cs[0]? = some v) : Exec P n o ⟨E, D, R, h⟩ (Is v R h) :=
  Exec_of_run fun _ _ _ a w hf ha hw => by
    obtain ⟨b, off, c, t0, fr, rfl, hb, hc⟩ := hp
    have hb' := hw.h_in hf _ _ hb
    have hv' : c[off]? = some v := by
      have hl : 0 < cs.length := by cases cs <;> simp_all
      have := hc 0 hl
      rw [Nat.add_zero] at this; rw [this]; exact hv
    exact ⟨v, R, h, w, .inl (by simp [execOp, ho, ha.ev hx, Instr.loadAt, Instr.sureAddr, run_loadVar_one ht hb' hv']), le.refl _, hw, rfl, rfl, rfl⟩
theorem X_loadA_at {x : Operand} {t : TypeId} {sz : Nat} {p : Value} {cs : List Value} (ho : o.op = .load t x) (hx : ev E x = some p) (hp : At h p cs)
    (ht : isA P t = some true) (hs : szOf P t = some sz) (hl : cs.length = sz) : Exec P n o ⟨E, D, R, h⟩ (Is (.agg cs.toArray) R h) :=
  Exec_of_run fun _ _ _ a w hf ha hw => by
    obtain ⟨b, off, c, t0, fr, rfl, hb, hc⟩ := hp
    have hb' := hw.h_in hf _ _ hb
    have hv : rd c off sz = some cs := rd_of hl fun j hj => hc j (by omega)
    exact ⟨_, R, h, w, .inl (by simp [execOp, ho, ha.ev hx, Instr.loadAt, Instr.sureAddr, run_loadVar_agg ht hs hb' hv]), le.refl _, hw, rfl, rfl, rfl⟩

/-! New blocks -/
theorem X_box {x : Operand} {t : TypeId} {v : Value} {vs : List Value} (ho : o.op = .box t x) (hx : ev E x = some v) (hv : vc v = vs) :
    Exec P n o ⟨E, D, R, h⟩ (Ret fun u R' h' => ∃ b, u = .pointer (some ⟨b, 0, none⟩) ∧ R' = blk b vs t :: R ∧ h' = h) :=
  Exec_of_run fun _ _ _ a w _ ha hw => ⟨_, _, h, _, .inl (by simp [execOp, ho, ha.ev hx, Instr.box, newVar, newRow]; exact ⟨rfl, rfl⟩), le.refl _, hw.new _, _, rfl, by subst hv; simp [blk, vc_cells], rfl⟩
theorem WL_boxV {x : Operand} {t : TypeId} {v : Value} {vs : List Value} {d : Tmp} (ho : o.op = .box t x) (hx : ev E x = some v) (hv : vc v = vs) (hd : o.dst = some d) (hg : gd ops E o = some true) (hn : Nat.blt d n = true)
    (k : ∀ b, WL P n ops l ⟨(d, .pointer (some ⟨b, 0, none⟩)) :: E, D, blk b vs t :: R, h⟩ K Q) : WL P n ops (o :: l) ⟨E, D, R, h⟩ K Q :=
  WL_any (X_box ho hx hv) hd hg hn fun _ _ _ _ ⟨b, e1, e2, e3⟩ => by subst e1; subst e2; subst e3; exact k b
theorem X_alloc {t : TypeId} {z : Value} {vs : List Value} (ho : o.op = .alloc t) (hz : zeOf P t = some z) (hv : vc z = vs) :
    Exec P n o ⟨E, D, R, h⟩ (Ret fun u R' h' => ∃ b, u = .pointer (some ⟨b, 0, none⟩) ∧ R' = blk b vs t :: R ∧ h' = h) :=
  Exec_of_run fun _ _ _ a w _ ha hw => ⟨_, _, h, _, .inl (by simp [execOp, ho, Instr.alloc, run_zeroValue w hz, newVar, newRow]; exact ⟨rfl, rfl⟩), le.refl _, hw.new _, _, rfl, by subst hv; simp [blk, vc_cells], rfl⟩
theorem WL_allocV {t : TypeId} {z : Value} {vs : List Value} {d : Tmp} (ho : o.op = .alloc t) (hz : zeOf P t = some z) (hv : vc z = vs) (hd : o.dst = some d) (hg : gd ops E o = some true) (hn : Nat.blt d n = true)
    (k : ∀ b, WL P n ops l ⟨(d, .pointer (some ⟨b, 0, none⟩)) :: E, D, blk b vs t :: R, h⟩ K Q) : WL P n ops (o :: l) ⟨E, D, R, h⟩ K Q :=
  WL_any (X_alloc ho hz hv) hd hg hn fun _ _ _ _ ⟨b, e1, e2, e3⟩ => by subst e1; subst e2; subst e3; exact k b

/-! Stores -/
theorem X_store {x y : Operand} {t t0 : TypeId} {b off i sz : Nat} {c vs : List Value} {v : Value} (ho : o.op = .store t x y) (hx : ev E x = some (.pointer (some ⟨b, off, none⟩))) (hy : ev E y = some v)
    (hi : R[i]? = some (blk b c t0)) (hs : szOf P t = some sz) (hv : vc v = vs) (hl : vs.length = sz) (hf : vs.all flat = true) (hc : off + sz ≤ c.length) :
    Exec P n o ⟨E, D, R, h⟩ (Ret fun _ R' h' => R' = R.set i (blk b (wr c off vs) t0) ∧ h' = h) :=
  Exec_of_run fun _ _ _ a w _ ha hw => ⟨undef, _, h, _, .inr ⟨rfl, by
    simp only [execOp, ho, ha.ev hx, ha.ev hy, Instr.storeAt, Instr.sureAddr, Sem.run_bind, Sem.run_pure, Result.andThen_ok]
    rw [run_storeVar_at hs hv hl hf (hw.obj_at hi) hc]; rfl⟩, le.refl _, hw.turnRow hi, rfl, rfl⟩
theorem WL_storeV {x y : Operand} {t t0 : TypeId} {b off i sz : Nat} {c c' vs : List Value} {v : Value} {R' : List SL} (ho : o.op = .store t x y) (hx : ev E x = some (.pointer (some ⟨b, off, none⟩))) (hy : ev E y = some v)
    (hi : R[i]? = some (blk b c t0)) (hs : szOf P t = some sz) (hv : vc v = vs) (hl : vs.length = sz) (hf : vs.all flat = true) (hc : off + sz ≤ c.length) (hd : o.dst = none) (hg : gd ops E o = some true)
    (hc' : wr c off vs = c') (hR : R.set i (blk b c' t0) = R')
    (k : WL P n ops l ⟨E, D, R', h⟩ K Q) : WL P n ops (o :: l) ⟨E, D, R, h⟩ K Q :=
  WL_do (X_store ho hx hy hi hs hv hl hf hc) hd hg fun _ _ _ _ ⟨e1, e2⟩ => by subst e1; subst e2; subst hc'; subst hR; exact k

/-! Fields -/
/-- A field that takes some cells: its place. -/
def fpOf (P : Program) (t : TypeId) (i : Nat) : Option Nat :=
  match fdOf P t i with
  | some (o, ft) => (match szOf P ft with
    | some (_ + 1) => some o
    | _ => none)
  | none => none
theorem run_fieldAt {t : TypeId} {i o' : Nat} {b off : Nat} (w : World) (hf : fpOf P t i = some o') : (Instr.fieldAt t (.pointer (some ⟨b, off, none⟩)) i).run P w = .ok (.pointer (some ⟨b, off + o', none⟩)) w := by
  unfold fpOf at hf
  split at hf
  · rename_i o1 ft hfd
    split at hf
    · rename_i k hz
      simp at hf; subst hf
      obtain ⟨fs, f, h1, h2, h3, h4⟩ := fdOf_under hfd
      subst h3; subst h4
      simp [Instr.fieldAt, run_underlying w h1, h2, Instr.sureAddr, fieldPlace, run_sizeOf w hz, add_spot]
    · cases hf
  · cases hf
theorem X_fieldAddr {x : Operand} {t : TypeId} {b off i o' off' : Nat} (ho : o.op = .fieldAddr t x i) (hx : ev E x = some (.pointer (some ⟨b, off, none⟩))) (hf : fpOf P t i = some o') (he : off + o' = off') :
    Exec P n o ⟨E, D, R, h⟩ (Is (.pointer (some ⟨b, off', none⟩)) R h) :=
  Exec_is fun a w ha => by subst he; simp [execOp, ho, ha.ev hx, run_fieldAt w hf]
/-- The same of a pointer of which only what is read is known. -/
theorem At.fieldAddr {p : Value} {cs : List Value} (hp : At h p cs) (o' : Nat) : ∃ p', At h p' (cs.drop o') ∧ ∀ {P : Program} {n : Nat} {o : Oper} {E : Env} {D : List Deferred} {R : List SL} {h1 : PH} {x : Operand} {t : TypeId} {i : Nat},
    o.op = .fieldAddr t x i → ev E x = some p → fpOf P t i = some o' → Exec P n o ⟨E, D, R, h1⟩ (Is p' R h1) := by
  obtain ⟨b, off, c, t0, fr, rfl, hb, hc⟩ := hp
  refine ⟨_, ⟨b, off + o', c, t0, fr, rfl, hb, fun j hj => ?_⟩, fun ho hx hf => X_fieldAddr ho hx hf rfl⟩
  simp only [List.length_drop] at hj
  rw [Nat.add_assoc, hc (o' + j) (by omega), List.getElem?_drop]
theorem WL_fieldAddr_at {x : Operand} {t : TypeId} {i o' : Nat} {p : Value} {cs : List Value} {d : Tmp} (ho : o.op = .fieldAddr t x i) (hx : ev E x = some p) (hp : At h p cs) (hf : fpOf P t i = some o')
    (hd : o.dst = some d) (hg : gd ops E o = some true) (hn : Nat.blt d n = true)
    (k : ∀ p', At h p' (cs.drop o') → WL P n ops l ⟨(d, p') :: E, D, R, h⟩ K Q) : WL P n ops (o :: l) ⟨E, D, R, h⟩ K Q := by
  obtain ⟨p', h1, h2⟩ := hp.fieldAddr o'
  exact WL_is (h2 ho hx hf) hd hg hn (k p' h1)
theorem X_field {x : Operand} {t : TypeId} {i o' ft : Nat} {cs : List Value} {v : Value} (ho : o.op = .field t x i) (hx : ev E x = some (.agg cs.toArray)) (hf : fdOf P t i = some (o', ft)) (ha : isA P ft = some false) (hv : cs[o']? = some v) :
    Exec P n o ⟨E, D, R, h⟩ (Is v R h) :=
  Exec_is fun a w hae => by
    obtain ⟨fs, f, h1, h2, h3, h4⟩ := fdOf_under hf
    subst h3; subst h4
    simp [execOp, ho, hae.ev hx, Instr.field, run_underlying w h1, h2, asAgg, part, run_isAgg w ha, hv]

/-! Indexing -/
/-- An element of a slice that is only read. -/
theorem Sl.idx {α : Type} {enc : α → List Value} {sz : Nat} {v : Value} {L : List α} (hv : Sl enc sz h v L) {i : Nat} (h1 : i < L.length) :
    ∃ p, At h p (enc L[i]) ∧ ∀ {P : Program} {n : Nat} {o : Oper} {E : Env} {D : List Deferred} {R : List SL} {h1 : PH} {x y : Operand} {t e : TypeId} {k : IntKind} {j : Int},
      o.op = .indexAddr t x y → slOf P t = some e → szOf P e = some sz → ev E x = some v → ev E y = some (.int k j) → 0 ≤ j → j.toNat = i → Exec P n o ⟨E, D, R, h1⟩ (Is p R h1) := by
  obtain ⟨b, off, cap, rfl, hat⟩ := hv.at h1
  refine ⟨_, hat, fun {_ _ _ _ _ _ _ _ _ _ _ _ j} ho ht hs hx hy h0 hi => Exec_is fun a w ha => ?_⟩
  subst hi
  have hj : j < (L.length : Int) := by omega
  simp [execOp, ho, ha.ev hx, ha.ev hy, Instr.indexAt, asIntOf, run_underlying w (slOf_under ht), run_sizeOf w hs, add_spot, h0, hj]
theorem WL_index_sl {α : Type} {enc : α → List Value} {sz : Nat} {x y : Operand} {t e : TypeId} {v : Value} {L : List α} {k : IntKind} {j : Int} {d : Tmp} (ho : o.op = .indexAddr t x y) (ht : slOf P t = some e) (hs : szOf P e = some sz)
    (hx : ev E x = some v) (hy : ev E y = some (.int k j)) (hv : Sl enc sz h v L) (h0 : 0 ≤ j) (h1 : j.toNat < L.length) (hd : o.dst = some d) (hg : gd ops E o = some true) (hn : Nat.blt d n = true)
    (kk : ∀ p, At h p (enc L[j.toNat]) → WL P n ops l ⟨(d, p) :: E, D, R, h⟩ K Q) : WL P n ops (o :: l) ⟨E, D, R, h⟩ K Q := by
  obtain ⟨p, h2, h3⟩ := hv.idx h1
  exact WL_is (h3 ho ht hs hx hy h0 rfl) hd hg hn (kk p h2)
/-- An element of a block of one's own, its place written out. -/
theorem X_index_own {x y : Operand} {t e : TypeId} {b off len cap sz off' : Nat} {k : IntKind} {j : Int} (ho : o.op = .indexAddr t x y) (ht : slOf P t = some e) (hs : szOf P e = some sz)
    (hx : ev E x = some (.slice (some ⟨b, off, none⟩) len cap)) (hy : ev E y = some (.int k j)) (h0 : 0 ≤ j) (h1 : j < len) (he : off + j.toNat * sz = off') :
    Exec P n o ⟨E, D, R, h⟩ (Is (.pointer (some ⟨b, off', none⟩)) R h) :=
  Exec_is fun a w ha => by
    subst he
    simp [execOp, ho, ha.ev hx, ha.ev hy, Instr.indexAt, asIntOf, run_underlying w (slOf_under ht), run_sizeOf w hs, add_spot, h0, h1]
/-- An element of an array variable. -/
theorem X_index_arr {x y : Operand} {t e : TypeId} {b off len sz off' : Nat} {k : IntKind} {j : Int} (ho : o.op = .indexAddr t x y) (ht : arOf P t = some (len, e)) (hs : szOf P e = some sz)
    (hx : ev E x = some (.pointer (some ⟨b, off, none⟩))) (hy : ev E y = some (.int k j)) (h0 : 0 ≤ j) (h1 : j < len) (he : off + j.toNat * sz = off') :
    Exec P n o ⟨E, D, R, h⟩ (Is (.pointer (some ⟨b, off', none⟩)) R h) :=
  Exec_is fun a w ha => by
    subst he
    simp [execOp, ho, ha.ev hx, ha.ev hy, Instr.indexAt, asIntOf, run_underlying w (arOf_under ht), run_sizeOf w hs, add_spot, h0, h1, Instr.sureAddr]
/-- An element of an array value. -/
theorem X_index_val {x y : Operand} {t e : TypeId} {len sz : Nat} {k : IntKind} {j : Int} {cs : List Value} {v : Value} (ho : o.op = .index t x y) (ht : arOf P t = some (len, e)) (hs : szOf P e = some sz) (he : isA P e = some false)
    (hx : ev E x = some (.agg cs.toArray)) (hy : ev E y = some (.int k j)) (h0 : 0 ≤ j) (h1 : j < len) (hv : cs[j.toNat * sz]? = some v) :
    Exec P n o ⟨E, D, R, h⟩ (Is v R h) :=
  Exec_is fun a w ha => by
    simp [execOp, ho, ha.ev hx, ha.ev hy, Instr.index, asIntOf, run_underlying w (arOf_under ht), run_sizeOf w hs, h0, h1, part, run_isAgg w he, hv]
/-- A string's byte. -/
theorem X_index_str {x y : Operand} {t : TypeId} {k : IntKind} {j : Int} {s : ByteArray} {c : UInt8} (ho : o.op = .index t x y) (ht : P.underlying t = some .string) (hx : ev E x = some (.string s)) (hy : ev E y = some (.int k j)) (h0 : 0 ≤ j)
    (hc : s.data.toList[j.toNat]? = some c) : Exec P n o ⟨E, D, R, h⟩ (Is (.int .u8 c.toNat) R h) :=
  Exec_is fun a w ha => by
    have hc' : s[j.toNat]? = some c := by
      rw [← hc, Array.getElem?_toList]
      have hlt : j.toNat < s.size := by
        rcases Nat.lt_or_ge j.toNat s.data.toList.length with h | h
        · simpa using h
        · simp [List.getElem?_eq_none h] at hc
      rw [ByteArray.getElem?_lt' s _ hlt]
      rw [Array.getElem?_eq_getElem hlt]; rfl
    simp [execOp, ho, ha.ev hx, ha.ev hy, Instr.index, asIntOf, run_underlying w ht, h0, hc']

/-! Lengths -/
theorem X_len {x : Operand} {t e : TypeId} {a0 : Option Addr} {m cap : Nat} (ho : o.op = .call ⟨.builtin .len, #[x], #[t]⟩) (ht : slOf P t = some e) (hx : ev E x = some (.slice a0 m cap)) :
    Exec P n o ⟨E, D, R, h⟩ (Is (.int .i64 m) R h) :=
  Exec_is fun a w ha => by simp [execOp, ho, resolve, invoke, builtin, Builtin.len_, ha.ev hx, run_underlying w (slOf_under ht), goInt]
theorem X_len_sl {α : Type} {enc : α → List Value} {sz : Nat} {x : Operand} {t e : TypeId} {v : Value} {L : List α} (ho : o.op = .call ⟨.builtin .len, #[x], #[t]⟩) (ht : slOf P t = some e) (hx : ev E x = some v) (hv : Sl enc sz h v L) :
    Exec P n o ⟨E, D, R, h⟩ (Is (.int .i64 L.length) R h) := by
  obtain ⟨a0, cap, rfl⟩ := hv.shape
  exact X_len ho ht hx
theorem X_len_str {x : Operand} {t : TypeId} {s : ByteArray} (ho : o.op = .call ⟨.builtin .len, #[x], #[t]⟩) (ht : P.underlying t = some .string) (hx : ev E x = some (.string s)) :
    Exec P n o ⟨E, D, R, h⟩ (Is (.int .i64 s.size) R h) :=
  Exec_is fun a w ha => by simp [execOp, ho, resolve, invoke, builtin, Builtin.len_, ha.ev hx, run_underlying w ht, goInt]
end
end Go.Par

/- Engine, part 8: numbers and truth values. It speaks of no program. -/
namespace Go.Par
open Go PH

section
variable {P : Program} {n : Nat} {o : Oper} {E : Env} {D : List Deferred} {R : List SL} {h : PH}

theorem guard_int {op : BinOp} {t : TypeId} {x y : Operand} {k k' : IntKind} {a b : Int} (w : World) : (eqGuard op t x y (.int k a) (.int k' b)).run P w = .ok () w := by
  unfold eqGuard; split <;> simp

theorem X_bin {op : BinOp} {t u : TypeId} {x y : Operand} {k : IntKind} {a b : Int} {v : Value} (ho : o.op = .binOp op t x y u) (hx : ev E x = some (.int k a)) (hy : ev E y = some (.int k b))
    (hv : ∀ w, (binOp op t (.int k a) (.int k b)).run P w = .ok v w) : Exec P n o ⟨E, D, R, h⟩ (Is v R h) :=
  Exec_is fun ac w ha => by
    simp only [execOp, ho, ha.ev hx, ha.ev hy, Sem.run_bind, guard_int, Result.andThen_ok, hv, Sem.run_pure]

theorem X_add {t u : TypeId} {x y : Operand} {k : IntKind} {a b : Int} (ho : o.op = .binOp .add t x y u) (hx : ev E x = some (.int k a)) (hy : ev E y = some (.int k b)) : Exec P n o ⟨E, D, R, h⟩ (Is (.int k (k.wrap (a + b))) R h) :=
  X_bin ho hx hy fun w => by simp [binOp, Op.intArith]
theorem X_sub {t u : TypeId} {x y : Operand} {k : IntKind} {a b : Int} (ho : o.op = .binOp .sub t x y u) (hx : ev E x = some (.int k a)) (hy : ev E y = some (.int k b)) : Exec P n o ⟨E, D, R, h⟩ (Is (.int k (k.wrap (a - b))) R h) :=
  X_bin ho hx hy fun w => by simp [binOp, Op.intArith]
theorem X_mul {t u : TypeId} {x y : Operand} {k : IntKind} {a b : Int} (ho : o.op = .binOp .mul t x y u) (hx : ev E x = some (.int k a)) (hy : ev E y = some (.int k b)) : Exec P n o ⟨E, D, R, h⟩ (Is (.int k (k.wrap (a * b))) R h) :=
  X_bin ho hx hy fun w => by simp [binOp, Op.intArith]

theorem wrap_i64_in {x : Int} (h0 : -9223372036854775808 ≤ x) (h1 : x ≤ 9223372036854775807) : IntKind.i64.wrap x = x := by
  rw [IntKind.wrap_i64]; omega
theorem wrap_u8_in {x : Int} (h0 : 0 ≤ x) (h1 : x ≤ 255) : IntKind.u8.wrap x = x := by rw [IntKind.wrap_u8]; omega
theorem wrap_u16_in {x : Int} (h0 : 0 ≤ x) (h1 : x ≤ 65535) : IntKind.u16.wrap x = x := by
  have : IntKind.u16.wrap x = x % 65536 := by simp [IntKind.wrap, IntKind.bits, IntKind.signed]
  rw [this]; omega
theorem wrap_u64_in {x : Int} (h0 : 0 ≤ x) (h1 : x ≤ 18446744073709551615) : IntKind.u64.wrap x = x := by
  rw [IntKind.wrap_u64]; omega

/-- Sums and the like of Go's int that fit. -/
theorem X_addI {t u : TypeId} {x y : Operand} {a b : Int} (ho : o.op = .binOp .add t x y u) (hx : ev E x = some (.int .i64 a)) (hy : ev E y = some (.int .i64 b)) (h0 : -9223372036854775808 ≤ a + b) (h1 : a + b ≤ 9223372036854775807) :
    Exec P n o ⟨E, D, R, h⟩ (Is (.int .i64 (a + b)) R h) := by
  have := X_add (P := P) (n := n) (D := D) (R := R) (h := h) ho hx hy; rw [wrap_i64_in h0 h1] at this; exact this
theorem X_subI {t u : TypeId} {x y : Operand} {a b : Int} (ho : o.op = .binOp .sub t x y u) (hx : ev E x = some (.int .i64 a)) (hy : ev E y = some (.int .i64 b)) (h0 : -9223372036854775808 ≤ a - b) (h1 : a - b ≤ 9223372036854775807) :
    Exec P n o ⟨E, D, R, h⟩ (Is (.int .i64 (a - b)) R h) := by
  have := X_sub (P := P) (n := n) (D := D) (R := R) (h := h) ho hx hy; rw [wrap_i64_in h0 h1] at this; exact this
theorem X_mulI {t u : TypeId} {x y : Operand} {a b : Int} (ho : o.op = .binOp .mul t x y u) (hx : ev E x = some (.int .i64 a)) (hy : ev E y = some (.int .i64 b)) (h0 : -9223372036854775808 ≤ a * b) (h1 : a * b ≤ 9223372036854775807) :
    Exec P n o ⟨E, D, R, h⟩ (Is (.int .i64 (a * b)) R h) := by
  have := X_mul (P := P) (n := n) (D := D) (R := R) (h := h) ho hx hy; rw [wrap_i64_in h0 h1] at this; exact this

/-- Division of what is not below 0. -/
theorem X_quo {t u : TypeId} {x y : Operand} {k : IntKind} {a b : Int} (ho : o.op = .binOp .quo t x y u) (hx : ev E x = some (.int k a)) (hy : ev E y = some (.int k b)) (h0 : 0 ≤ a) (h1 : 0 < b) :
    Exec P n o ⟨E, D, R, h⟩ (Is (.int k (k.wrap (a / b))) R h) :=
  X_bin ho hx hy fun w => by have hb : b ≠ 0 := by omega
                             simp [binOp, Op.intDiv, hb, Int.tdiv_eq_ediv_of_nonneg h0]
theorem X_rem {t u : TypeId} {x y : Operand} {k : IntKind} {a b : Int} (ho : o.op = .binOp .rem t x y u) (hx : ev E x = some (.int k a)) (hy : ev E y = some (.int k b)) (h0 : 0 ≤ a) (h1 : 0 < b) :
    Exec P n o ⟨E, D, R, h⟩ (Is (.int k (a % b)) R h) :=
  X_bin ho hx hy fun w => by have hb : b ≠ 0 := by omega
                             simp [binOp, Op.intDiv, hb, Int.tmod_eq_emod_of_nonneg h0]
theorem X_quoI {t u : TypeId} {x y : Operand} {a b : Int} (ho : o.op = .binOp .quo t x y u) (hx : ev E x = some (.int .i64 a)) (hy : ev E y = some (.int .i64 b)) (h0 : 0 ≤ a) (h1 : 0 < b) (h2 : a ≤ 9223372036854775807) :
    Exec P n o ⟨E, D, R, h⟩ (Is (.int .i64 (a / b)) R h) := by
  have := X_quo (P := P) (n := n) (D := D) (R := R) (h := h) ho hx hy h0 h1
  have e1 : 0 ≤ a / b := Int.ediv_nonneg h0 (by omega)
  have e2 : a / b ≤ a := Int.ediv_le_self b h0
  rw [wrap_i64_in (by omega) (by omega)] at this; exact this
/-- The remainder, whatever the sign. -/
theorem X_tmod {t u : TypeId} {x y : Operand} {k : IntKind} {a b : Int} (ho : o.op = .binOp .rem t x y u) (hx : ev E x = some (.int k a)) (hy : ev E y = some (.int k b)) (h1 : b ≠ 0) :
    Exec P n o ⟨E, D, R, h⟩ (Is (.int k (a.tmod b)) R h) :=
  X_bin ho hx hy fun w => by simp [binOp, Op.intDiv, h1]

theorem X_and {t u : TypeId} {x y : Operand} {k : IntKind} {a b : Int} (ho : o.op = .binOp .and t x y u) (hx : ev E x = some (.int k a)) (hy : ev E y = some (.int k b)) : Exec P n o ⟨E, D, R, h⟩ (Is (.int k (bits .and k a b)) R h) :=
  X_bin ho hx hy fun w => by simp [binOp, intBits_and]
theorem X_or {t u : TypeId} {x y : Operand} {k : IntKind} {a b : Int} (ho : o.op = .binOp .or t x y u) (hx : ev E x = some (.int k a)) (hy : ev E y = some (.int k b)) : Exec P n o ⟨E, D, R, h⟩ (Is (.int k (bits .or k a b)) R h) :=
  X_bin ho hx hy fun w => by simp [binOp, intBits_or]
theorem X_xor {t u : TypeId} {x y : Operand} {k : IntKind} {a b : Int} (ho : o.op = .binOp .xor t x y u) (hx : ev E x = some (.int k a)) (hy : ev E y = some (.int k b)) : Exec P n o ⟨E, D, R, h⟩ (Is (.int k (bits .xor k a b)) R h) :=
  X_bin ho hx hy fun w => by simp [binOp, intBits_xor]
theorem X_andNot {t u : TypeId} {x y : Operand} {k : IntKind} {a b : Int} (ho : o.op = .binOp .andNot t x y u) (hx : ev E x = some (.int k a)) (hy : ev E y = some (.int k b)) : Exec P n o ⟨E, D, R, h⟩ (Is (.int k (bits .andNot k a b)) R h) :=
  X_bin ho hx hy fun w => by simp [binOp, intBits_andNot]

theorem X_shl {t u : TypeId} {x y : Operand} {k k2 : IntKind} {a b : Int} (ho : o.op = .binOp .shl t x y u) (hx : ev E x = some (.int k a)) (hy : ev E y = some (.int k2 b)) (h0 : 0 ≤ b) (h1 : b ≤ k.bits) :
    Exec P n o ⟨E, D, R, h⟩ (Is (.int k (k.wrap (a * 2 ^ b.toNat))) R h) :=
  Exec_is fun ac w ha => by
    have hm : min b.toNat k.bits = b.toNat := by omega
    have hb : ¬ b < 0 := by omega
    simp only [execOp, ho, ha.ev hx, ha.ev hy, guard_int, binOp, Op.shift, hb, hm, if_false, Sem.run_bind, Sem.run_pure, Result.andThen_ok]
theorem X_shr {t u : TypeId} {x y : Operand} {k k2 : IntKind} {a b : Int} (ho : o.op = .binOp .shr t x y u) (hx : ev E x = some (.int k a)) (hy : ev E y = some (.int k2 b)) (h0 : 0 ≤ b) (h1 : b ≤ k.bits) :
    Exec P n o ⟨E, D, R, h⟩ (Is (.int k (a / 2 ^ b.toNat)) R h) :=
  Exec_is fun ac w ha => by
    have hm : min b.toNat k.bits = b.toNat := by omega
    have hp : (0 : Int) ≤ 2 ^ b.toNat := Int.le_of_lt (Int.pow_pos (by decide))
    have hb : ¬ b < 0 := by omega
    simp only [execOp, ho, ha.ev hx, ha.ev hy, guard_int, binOp, Op.shift, hb, hm, Int.fdiv_eq_ediv_of_nonneg _ hp, if_false, Sem.run_bind, Sem.run_pure, Result.andThen_ok]

theorem X_lss {t u : TypeId} {x y : Operand} {k : IntKind} {a b : Int} (ho : o.op = .binOp .lss t x y u) (hx : ev E x = some (.int k a)) (hy : ev E y = some (.int k b)) : Exec P n o ⟨E, D, R, h⟩ (Is (.bool (decide (a < b))) R h) :=
  X_bin ho hx hy fun w => by simp [binOp, Op.intCmp]
theorem X_leq {t u : TypeId} {x y : Operand} {k : IntKind} {a b : Int} (ho : o.op = .binOp .leq t x y u) (hx : ev E x = some (.int k a)) (hy : ev E y = some (.int k b)) : Exec P n o ⟨E, D, R, h⟩ (Is (.bool (decide (a ≤ b))) R h) :=
  X_bin ho hx hy fun w => by simp [binOp, Op.intCmp]
theorem X_gtr {t u : TypeId} {x y : Operand} {k : IntKind} {a b : Int} (ho : o.op = .binOp .gtr t x y u) (hx : ev E x = some (.int k a)) (hy : ev E y = some (.int k b)) : Exec P n o ⟨E, D, R, h⟩ (Is (.bool (decide (b < a))) R h) :=
  X_bin ho hx hy fun w => by simp [binOp, Op.intCmp]
theorem X_geq {t u : TypeId} {x y : Operand} {k : IntKind} {a b : Int} (ho : o.op = .binOp .geq t x y u) (hx : ev E x = some (.int k a)) (hy : ev E y = some (.int k b)) : Exec P n o ⟨E, D, R, h⟩ (Is (.bool (decide (b ≤ a))) R h) :=
  X_bin ho hx hy fun w => by simp [binOp, Op.intCmp]
theorem X_eql {t u : TypeId} {x y : Operand} {k : IntKind} {a b : Int} (ho : o.op = .binOp .eql t x y u) (hx : ev E x = some (.int k a)) (hy : ev E y = some (.int k b)) : Exec P n o ⟨E, D, R, h⟩ (Is (.bool (decide (a = b))) R h) :=
  X_bin ho hx hy fun w => by simp [binOp, Op.intCmp]; rfl
theorem X_neq {t u : TypeId} {x y : Operand} {k : IntKind} {a b : Int} (ho : o.op = .binOp .neq t x y u) (hx : ev E x = some (.int k a)) (hy : ev E y = some (.int k b)) : Exec P n o ⟨E, D, R, h⟩ (Is (.bool (!decide (a = b))) R h) :=
  X_bin ho hx hy fun w => by simp [binOp, Op.intCmp, bne]; rfl

theorem X_lss_t {t u : TypeId} {x y : Operand} {k : IntKind} {a b : Int} (ho : o.op = .binOp .lss t x y u) (hx : ev E x = some (.int k a)) (hy : ev E y = some (.int k b)) (hc : a < b) : Exec P n o ⟨E, D, R, h⟩ (Is (.bool true) R h) := by
  have := X_lss (P := P) (n := n) (D := D) (R := R) (h := h) ho hx hy; rw [decide_eq_true hc] at this; exact this
theorem X_lss_f {t u : TypeId} {x y : Operand} {k : IntKind} {a b : Int} (ho : o.op = .binOp .lss t x y u) (hx : ev E x = some (.int k a)) (hy : ev E y = some (.int k b)) (hc : ¬ a < b) : Exec P n o ⟨E, D, R, h⟩ (Is (.bool false) R h) := by
  have := X_lss (P := P) (n := n) (D := D) (R := R) (h := h) ho hx hy; rw [decide_eq_false hc] at this; exact this
theorem X_leq_t {t u : TypeId} {x y : Operand} {k : IntKind} {a b : Int} (ho : o.op = .binOp .leq t x y u) (hx : ev E x = some (.int k a)) (hy : ev E y = some (.int k b)) (hc : a ≤ b) : Exec P n o ⟨E, D, R, h⟩ (Is (.bool true) R h) := by
  have := X_leq (P := P) (n := n) (D := D) (R := R) (h := h) ho hx hy; rw [decide_eq_true hc] at this; exact this
theorem X_leq_f {t u : TypeId} {x y : Operand} {k : IntKind} {a b : Int} (ho : o.op = .binOp .leq t x y u) (hx : ev E x = some (.int k a)) (hy : ev E y = some (.int k b)) (hc : ¬ a ≤ b) : Exec P n o ⟨E, D, R, h⟩ (Is (.bool false) R h) := by
  have := X_leq (P := P) (n := n) (D := D) (R := R) (h := h) ho hx hy; rw [decide_eq_false hc] at this; exact this
theorem X_gtr_t {t u : TypeId} {x y : Operand} {k : IntKind} {a b : Int} (ho : o.op = .binOp .gtr t x y u) (hx : ev E x = some (.int k a)) (hy : ev E y = some (.int k b)) (hc : b < a) : Exec P n o ⟨E, D, R, h⟩ (Is (.bool true) R h) := by
  have := X_gtr (P := P) (n := n) (D := D) (R := R) (h := h) ho hx hy; rw [decide_eq_true hc] at this; exact this
theorem X_gtr_f {t u : TypeId} {x y : Operand} {k : IntKind} {a b : Int} (ho : o.op = .binOp .gtr t x y u) (hx : ev E x = some (.int k a)) (hy : ev E y = some (.int k b)) (hc : ¬ b < a) : Exec P n o ⟨E, D, R, h⟩ (Is (.bool false) R h) := by
  have := X_gtr (P := P) (n := n) (D := D) (R := R) (h := h) ho hx hy; rw [decide_eq_false hc] at this; exact this
theorem X_geq_t {t u : TypeId} {x y : Operand} {k : IntKind} {a b : Int} (ho : o.op = .binOp .geq t x y u) (hx : ev E x = some (.int k a)) (hy : ev E y = some (.int k b)) (hc : b ≤ a) : Exec P n o ⟨E, D, R, h⟩ (Is (.bool true) R h) := by
  have := X_geq (P := P) (n := n) (D := D) (R := R) (h := h) ho hx hy; rw [decide_eq_true hc] at this; exact this
theorem X_geq_f {t u : TypeId} {x y : Operand} {k : IntKind} {a b : Int} (ho : o.op = .binOp .geq t x y u) (hx : ev E x = some (.int k a)) (hy : ev E y = some (.int k b)) (hc : ¬ b ≤ a) : Exec P n o ⟨E, D, R, h⟩ (Is (.bool false) R h) := by
  have := X_geq (P := P) (n := n) (D := D) (R := R) (h := h) ho hx hy; rw [decide_eq_false hc] at this; exact this
theorem X_eql_t {t u : TypeId} {x y : Operand} {k : IntKind} {a b : Int} (ho : o.op = .binOp .eql t x y u) (hx : ev E x = some (.int k a)) (hy : ev E y = some (.int k b)) (hc : a = b) : Exec P n o ⟨E, D, R, h⟩ (Is (.bool true) R h) := by
  have := X_eql (P := P) (n := n) (D := D) (R := R) (h := h) ho hx hy; rw [decide_eq_true hc] at this; exact this
theorem X_eql_f {t u : TypeId} {x y : Operand} {k : IntKind} {a b : Int} (ho : o.op = .binOp .eql t x y u) (hx : ev E x = some (.int k a)) (hy : ev E y = some (.int k b)) (hc : a ≠ b) : Exec P n o ⟨E, D, R, h⟩ (Is (.bool false) R h) := by
  have := X_eql (P := P) (n := n) (D := D) (R := R) (h := h) ho hx hy; rw [decide_eq_false hc] at this; exact this
theorem X_neq_t {t u : TypeId} {x y : Operand} {k : IntKind} {a b : Int} (ho : o.op = .binOp .neq t x y u) (hx : ev E x = some (.int k a)) (hy : ev E y = some (.int k b)) (hc : a ≠ b) : Exec P n o ⟨E, D, R, h⟩ (Is (.bool true) R h) := by
  have := X_neq (P := P) (n := n) (D := D) (R := R) (h := h) ho hx hy; rw [decide_eq_false hc] at this; exact this
theorem X_neq_f {t u : TypeId} {x y : Operand} {k : IntKind} {a b : Int} (ho : o.op = .binOp .neq t x y u) (hx : ev E x = some (.int k a)) (hy : ev E y = some (.int k b)) (hc : a = b) : Exec P n o ⟨E, D, R, h⟩ (Is (.bool false) R h) := by
  have := X_neq (P := P) (n := n) (D := D) (R := R) (h := h) ho hx hy; rw [decide_eq_true hc] at this; exact this

theorem X_eqB {t u : TypeId} {x y : Operand} {a b : Bool} (ho : o.op = .binOp .eql t x y u) (ht : P.underlying t = some .bool) (hx : ev E x = some (.bool a)) (hy : ev E y = some (.bool b)) : Exec P n o ⟨E, D, R, h⟩ (Is (.bool (a == b)) R h) :=
  Exec_is fun ac w ha => by simp [execOp, ho, ha.ev hx, ha.ev hy, eqGuard, binOp, run_equal_bool w t a b ht]
theorem X_neB {t u : TypeId} {x y : Operand} {a b : Bool} (ho : o.op = .binOp .neq t x y u) (ht : P.underlying t = some .bool) (hx : ev E x = some (.bool a)) (hy : ev E y = some (.bool b)) : Exec P n o ⟨E, D, R, h⟩ (Is (.bool (!(a == b))) R h) :=
  Exec_is fun ac w ha => by simp [execOp, ho, ha.ev hx, ha.ev hy, eqGuard, binOp, run_equal_bool w t a b ht]
theorem X_not {t : TypeId} {x : Operand} {a : Bool} (ho : o.op = .unOp .not t x) (hx : ev E x = some (.bool a)) : Exec P n o ⟨E, D, R, h⟩ (Is (.bool (!a)) R h) :=
  Exec_is fun ac w ha => by simp [execOp, ho, ha.ev hx, Op.unary]
theorem X_neg {t : TypeId} {x : Operand} {k : IntKind} {a : Int} (ho : o.op = .unOp .neg t x) (hx : ev E x = some (.int k a)) : Exec P n o ⟨E, D, R, h⟩ (Is (.int k (k.wrap (0 - a))) R h) :=
  Exec_is fun ac w ha => by simp [execOp, ho, ha.ev hx, Op.unary, Op.intArith]

def inOf (P : Program) (t : TypeId) : Option IntKind :=
  match P.underlying t with
  | some (.int k) => some k
  | _ => none
theorem inOf_under {t : TypeId} {k : IntKind} (h : inOf P t = some k) : P.underlying t = some (.int k) := by
  unfold inOf at h
  split at h
  · rename_i hu; simp at h; subst h; exact hu
  · cases h
theorem run_convert_int {s d : TypeId} {k k2 : IntKind} {a : Int} (w : World) (hs : inOf P s = some k) (hd : inOf P d = some k2) : (convert s d (.int k a)).run P w = .ok (.int k2 (k2.wrap a)) w := by
  simp [convert, run_underlying w (inOf_under hs), run_underlying w (inOf_under hd), Conv.intToInt]
theorem X_conv {s d : TypeId} {x : Operand} {k k2 : IntKind} {a : Int} (ho : o.op = .convert s d x) (hs : inOf P s = some k) (hd : inOf P d = some k2) (hx : ev E x = some (.int k a)) : Exec P n o ⟨E, D, R, h⟩ (Is (.int k2 (k2.wrap a)) R h) :=
  Exec_is fun ac w ha => by simp [execOp, ho, ha.ev hx, run_convert_int w hs hd]
/-- A conversion to Go's int of what fits. -/
theorem X_convI {s d : TypeId} {x : Operand} {k : IntKind} {a : Int} (ho : o.op = .convert s d x) (hs : inOf P s = some k) (hd : inOf P d = some .i64) (hx : ev E x = some (.int k a)) (h0 : -9223372036854775808 ≤ a) (h1 : a ≤ 9223372036854775807) :
    Exec P n o ⟨E, D, R, h⟩ (Is (.int .i64 a) R h) := by
  have := X_conv (P := P) (n := n) (D := D) (R := R) (h := h) ho hs hd hx; rw [wrap_i64_in h0 h1] at this; exact this

/-- A slice against nil. -/
theorem X_nilSl {t u : TypeId} {x y : Operand} {e : TypeId} {a : Option Addr} {m c : Nat} (ho : o.op = .binOp .eql t x y u) (ht : slOf P t = some e) (hx : ev E x = some (.slice a m c)) (hy : ev E y = some (.slice none 0 0)) :
    Exec P n o ⟨E, D, R, h⟩ (Is (.bool a.isNone) R h) :=
  Exec_is fun ac w ha => by
    have hr : (Op.equal t (.slice a m c) (.slice none 0 0)).run P w = .ok a.isNone w := by
      show (Op.equalIn (9999 + 1) t (.slice a m c) (.slice none 0 0)).run P w = _
      rw [Op.equalIn]
      cases a <;> simp [run_underlying w (slOf_under ht)]
    simp [execOp, ho, ha.ev hx, ha.ev hy, eqGuard, binOp, hr]
end

end Go.Par

/- Engine, part 9: steps in a region that draws its order. It speaks of no program. -/
namespace Go.Par
open Go PH

theorem Exec_lift {P : Program} {n : Nat} {o : Oper} {E : Env} {D : List Deferred} {R : List SL} {h h' : PH} {v : Value} (H : Exec P n o ⟨E, D, R, h⟩ (Is v R h)) (hh : le h h') (sp : Sp) (hs : sp = .val v) :
    Exec P n o ⟨E, D, R, h'⟩ (fun e R' h'' => ∃ u, e = .returned u ∧ sp.holds u h'' ∧ SubR R' (sp.O u ++ R)) := by
  subst hs
  refine (Exec_frame H (SubE.refl _) (R2 := []) (by simp) hh).mono ?_
  rintro e R' h'' _ ⟨R1', h1, rfl, _, _, rfl, rfl, rfl⟩
  exact ⟨v, rfl, rfl, SubR.of_perm (by simp [Sp.O])⟩

/-- A new block behind a pointer of which nothing else is known. -/
def pblk (v : Value) (c : List Value) (t : TypeId) : SL := fun g => ∃ b, v = .pointer (some ⟨b, 0, none⟩) ∧ blk b c t g

section
variable {P : Program} {n : Nat} {ops : Array Oper} {l : List Oper} {o : Oper} {E0 : Env} {D : List Deferred} {R : List SL} {h : PH} {K : Done → Prop} {i : Nat} {dn : Done}

theorem RG_nil (k : K dn) : RG P n ops E0 D R h K i [] dn := k
theorem RG_off {d : Tmp} (hd : o.dst = some d) (hn : Nat.blt d n = true) (hg : ∀ vs, gd ops (av o.after.toList vs dn ++ E0) o = some false)
    (k : RG P n ops E0 D R h K (i + 1) l ((i, some d, .val undef) :: dn)) : RG P n ops E0 D R h K i (o :: l) dn :=
  ⟨.val undef, ⟨by rw [hd]; exact hn, trivial, .inl ⟨rfl, hg⟩⟩, by rw [hd]; exact k⟩
theorem RG_val {d : Tmp} {v : Value} (hd : o.dst = some d) (hn : Nat.blt d n = true) (hg : ∀ vs, gd ops (av o.after.toList vs dn ++ E0) o = some true)
    (hx : ∀ vs, Exec P n o ⟨av o.after.toList vs dn ++ E0, D, R, h⟩ (Is v R h))
    (k : RG P n ops E0 D R h K (i + 1) l ((i, some d, .val v) :: dn)) : RG P n ops E0 D R h K i (o :: l) dn :=
  ⟨.val v, ⟨by rw [hd]; exact hn, trivial, .inr ⟨hg, fun vs h' hle _ => Exec_lift (hx vs) hle _ rfl⟩⟩, by rw [hd]; exact k⟩
/-- What hangs on what is known of values before. -/
theorem RG_gen {d : Tmp} (sp : Sp) (hst : sp.stays) (hd : o.dst = some d) (hn : Nat.blt d n = true) (hg : ∀ vs, gd ops (av o.after.toList vs dn ++ E0) o = some true)
    (hx : ∀ vs h', le h h' → fc o.after.toList vs h' dn → Exec P n o ⟨av o.after.toList vs dn ++ E0, D, sp.C ++ R, h'⟩ (fun e R' h'' => ∃ v, e = .returned v ∧ sp.holds v h'' ∧ SubR R' (sp.O v ++ R)))
    (k : RG P n ops E0 D R h K (i + 1) l ((i, some d, sp) :: dn)) : RG P n ops E0 D R h K i (o :: l) dn :=
  ⟨sp, ⟨by rw [hd]; exact hn, hst, .inr ⟨hg, hx⟩⟩, by rw [hd]; exact k⟩
/-- A call. 'R1' of what may be read goes with it, and comes back. -/
theorem RG_call (sp : Sp) (R1 R2 : List SL) (hst : sp.stays) {d : Tmp} {fo : Operand} {xs : Array Operand} {tys : Array TypeId} {f : FuncId} {fi ca : Array Value} {args : (Nat → Value) → List Value} {fn : Func}
    (ho : o.op = .call ⟨.value fo, xs, tys⟩) (hfo : ∀ vs, ev (av o.after.toList vs dn ++ E0) fo = some (.func (.func f) fi ca)) (hxs : ∀ vs, evs (av o.after.toList vs dn ++ E0) xs.toList = some (args vs))
    (hfn : P.funcs[f]? = some fn) (hc : callable fn = true) (hd : o.dst = some d) (hn : Nat.blt d n = true) (hg : ∀ vs, gd ops (av o.after.toList vs dn ++ E0) o = some true) (hR : R.Perm (R1 ++ R2))
    (hF : ∀ vs h', le h h' → fc o.after.toList vs h' dn → Does P f (fi.toList ++ args vs ++ ca.toList) (sp.C ++ R1) h' (Ret fun v R' h'' => sp.holds v h'' ∧ SubR R' (sp.O v ++ R1)))
    (k : RG P n ops E0 D R h K (i + 1) l ((i, some d, sp) :: dn)) : RG P n ops E0 D R h K i (o :: l) dn := by
  refine RG_gen sp hst hd hn hg ?_ k
  intro vs h' hle hf
  refine (X_call (R1 := sp.C ++ R1) (R2 := R2) ho (hfo vs) (hxs vs) hfn hc (by rw [List.append_assoc]; exact hR.append_left _) (hF vs h' hle hf)).mono ?_
  rintro e R' h'' _ ⟨R1', rfl, hA⟩
  cases e with
  | returned v =>
    refine ⟨v, rfl, hA.1, ?_⟩
    obtain ⟨R3, p⟩ := hA.2
    refine ⟨R3, ?_⟩
    refine (p.append_right R2).trans ?_
    refine List.Perm.trans ?_ ((hR.symm.append_left (sp.O v)).append_right R3)
    simp only [List.append_assoc]
    exact List.Perm.append_left _ (List.Perm.append_left _ List.perm_append_comm)
  | panicked ch => exact hA.elim
  | outgrown => exact hA.elim
/-- A call that answers one value, whatever memory it makes. -/
theorem RG_callv (c : Value) {d : Tmp} {fo : Operand} {xs : Array Operand} {tys : Array TypeId} {f : FuncId} {fi ca : Array Value} {args : (Nat → Value) → List Value} {fn : Func}
    (ho : o.op = .call ⟨.value fo, xs, tys⟩) (hfo : ∀ vs, ev (av o.after.toList vs dn ++ E0) fo = some (.func (.func f) fi ca)) (hxs : ∀ vs, evs (av o.after.toList vs dn ++ E0) xs.toList = some (args vs))
    (hfn : P.funcs[f]? = some fn) (hc : callable fn = true) (hd : o.dst = some d) (hn : Nat.blt d n = true) (hg : ∀ vs, gd ops (av o.after.toList vs dn ++ E0) o = some true)
    (hF : ∀ vs h', le h h' → fc o.after.toList vs h' dn → Does P f (fi.toList ++ args vs ++ ca.toList) [] h' (Ret fun v _ _ => v = c))
    (k : RG P n ops E0 D R h K (i + 1) l ((i, some d, .val c) :: dn)) : RG P n ops E0 D R h K i (o :: l) dn :=
  RG_call (.val c) [] R trivial ho hfo hxs hfn hc hd hn hg (by simp)
    (fun vs h' hle hf => (hF vs h' hle hf).mono fun e R' h'' _ hA => by
      cases e with
      | returned v => exact ⟨hA, SubR.none _⟩
      | panicked ch => exact hA.elim
      | outgrown => exact hA.elim) k
/-- A call of whose answer something is known, for good. -/
theorem RG_callo (A : Value → PH → Prop) (hst : ∀ v h h', le h h' → A v h → A v h') {d : Tmp} {fo : Operand} {xs : Array Operand} {tys : Array TypeId} {f : FuncId} {fi ca : Array Value} {args : (Nat → Value) → List Value} {fn : Func}
    (ho : o.op = .call ⟨.value fo, xs, tys⟩) (hfo : ∀ vs, ev (av o.after.toList vs dn ++ E0) fo = some (.func (.func f) fi ca)) (hxs : ∀ vs, evs (av o.after.toList vs dn ++ E0) xs.toList = some (args vs))
    (hfn : P.funcs[f]? = some fn) (hc : callable fn = true) (hd : o.dst = some d) (hn : Nat.blt d n = true) (hg : ∀ vs, gd ops (av o.after.toList vs dn ++ E0) o = some true)
    (hF : ∀ vs h', le h h' → fc o.after.toList vs h' dn → Does P f (fi.toList ++ args vs ++ ca.toList) [] h' (Ret fun v _ h'' => A v h''))
    (k : RG P n ops E0 D R h K (i + 1) l ((i, some d, .opq A [] fun _ => []) :: dn)) : RG P n ops E0 D R h K i (o :: l) dn :=
  RG_call (.opq A [] fun _ => []) [] R hst ho hfo hxs hfn hc hd hn hg (by simp)
    (fun vs h' hle hf => (hF vs h' hle hf).mono fun e R' h'' _ hA => by
      cases e with
      | returned v => exact ⟨hA, SubR.none _⟩
      | panicked ch => exact hA.elim
      | outgrown => exact hA.elim) k
/-- A new variable. -/
theorem RG_alloc {t : TypeId} {z : Value} {vs0 : List Value} {d : Tmp} (ho : o.op = .alloc t) (hz : zeOf P t = some z) (hv0 : vcO z = some vs0) (hd : o.dst = some d) (hn : Nat.blt d n = true) (hg : ∀ vs, gd ops (av o.after.toList vs dn ++ E0) o = some true)
    (k : RG P n ops E0 D R h K (i + 1) l ((i, some d, .opq (fun v _ => ∃ b, v = .pointer (some ⟨b, 0, none⟩)) [] fun v => [pblk v vs0 t]) :: dn)) : RG P n ops E0 D R h K i (o :: l) dn := by
  have hv := vcO_eq hv0
  refine RG_gen (.opq (fun v _ => ∃ b, v = .pointer (some ⟨b, 0, none⟩)) [] fun v => [pblk v vs0 t]) (fun _ _ _ _ x => x) hd hn hg ?_ k
  intro vs h' _ _
  refine (Exec.mono (K := Ret fun u R' h' => ∃ b, u = .pointer (some ⟨b, 0, none⟩) ∧ R' = pblk u vs0 t :: R ∧ True) ?_ ?_)
  · intro κ h0 f a w hf ha hw next Q h1 h2
    refine X_alloc (P := P) (n := n) (R := R) ho hz hv κ h0 f a w hf ha hw next Q ?_ ?_
    · rintro v R' h'' w' hle hs ⟨b, rfl, rfl, rfl⟩
      refine h1 _ (pblk (.pointer (some ⟨b, 0, none⟩)) vs0 t :: R) _ w' hle ?_ ⟨b, rfl, rfl, trivial⟩
      obtain ⟨x, g, kk, e, ⟨g1, g2, eg, hd', hg1, hg2⟩, rest⟩ := hs
      exact ⟨x, g, kk, e, ⟨g1, g2, eg, hd', ⟨b, rfl, hg1⟩, hg2⟩, rest⟩
    · rintro ch R' h'' w' _ _ hx; exact hx.elim
  · rintro e R' h'' _ hA
    cases e with
    | returned v => obtain ⟨b, rfl, rfl, _⟩ := hA; exact ⟨_, rfl, ⟨b, rfl⟩, SubR.refl _⟩
    | panicked ch => exact hA.elim
    | outgrown => exact hA.elim
/-- An element of a slice that is only read. -/
theorem RG_index_sl {α : Type} {enc : α → List Value} {sz : Nat} {x y : Operand} {t e : TypeId} {v : Value} {L : List α} {k : IntKind} {j : Int} {d : Tmp} (ho : o.op = .indexAddr t x y) (ht : slOf P t = some e) (hs : szOf P e = some sz)
    (hx : ∀ vs, ev (av o.after.toList vs dn ++ E0) x = some v) (hy : ∀ vs, ev (av o.after.toList vs dn ++ E0) y = some (.int k j)) (hv : Sl enc sz h v L) (h0 : 0 ≤ j) (h1 : j.toNat < L.length) (hd : o.dst = some d) (hn : Nat.blt d n = true) (hg : ∀ vs, gd ops (av o.after.toList vs dn ++ E0) o = some true)
    (kk : ∀ p, At h p (enc L[j.toNat]) → RG P n ops E0 D R h K (i + 1) l ((i, some d, .val p) :: dn)) : RG P n ops E0 D R h K i (o :: l) dn := by
  obtain ⟨p, h2, h3⟩ := hv.idx h1
  exact RG_val hd hn hg (fun vs => h3 ho ht hs (hx vs) (hy vs) h0 rfl) (kk p h2)
theorem RG_fieldAddr_at {x : Operand} {t : TypeId} {i' o' : Nat} {p : Value} {cs : List Value} {d : Tmp} (ho : o.op = .fieldAddr t x i') (hx : ∀ vs, ev (av o.after.toList vs dn ++ E0) x = some p) (hp : At h p cs) (hf : fpOf P t i' = some o')
    (hd : o.dst = some d) (hn : Nat.blt d n = true) (hg : ∀ vs, gd ops (av o.after.toList vs dn ++ E0) o = some true)
    (kk : ∀ p', At h p' (cs.drop o') → RG P n ops E0 D R h K (i + 1) l ((i, some d, .val p') :: dn)) : RG P n ops E0 D R h K i (o :: l) dn := by
  obtain ⟨p', h1, h2⟩ := hp.fieldAddr o'
  exact RG_val hd hn hg (fun vs => h2 ho (hx vs) hf) (kk p' h1)

end

section
variable {P : Program} {n : Nat} {ops : Array Oper} {l : List Oper} {E : Env} {D : List Deferred} {R R' : List SL} {h h' : PH} {K : S → Prop} {Q : Exit → S → Prop}
/-- What is owned and known turned, in the midst of a region. -/
theorem WL_upd (u : Upd R h R' h') (k : WL P n ops l ⟨E, D, R', h'⟩ K Q) : WL P n ops l ⟨E, D, R, h⟩ K Q := fun κ h0 f a w hf ha hw => k κ h0 f a w hf ha (u κ h0 f w hf hw)
theorem WL_weaken {E1 : Env} {R1 : List SL} (hE : SubE E E1) (hR : SubR R R1) (k : WL P n ops l ⟨E1, D, R1, h⟩ K Q) : WL P n ops l ⟨E, D, R, h⟩ K Q := fun κ h0 f a w hf ha hw => k κ h0 f a w hf (ha.sub hE) (hw.sub hR)

/-- The same, with a choice. -/
def UpdE (R : List SL) (h : PH) (A : List SL → PH → Prop) : Prop :=
  ∀ (κ : World) (h0 f : PH) (w : World), le h0 f → St κ h0 f R h w → ∃ R' h', le h h' ∧ A R' h' ∧ St κ h0 f R' h' w
theorem WL_updE {A : List SL → PH → Prop} (u : UpdE R h A) (k : ∀ R' h', le h h' → A R' h' → WL P n ops l ⟨E, D, R', h'⟩ K Q) : WL P n ops l ⟨E, D, R, h⟩ K Q := fun κ h0 f a w hf ha hw => by
  obtain ⟨R', h', hle, hA, hs⟩ := u κ h0 f w hf hw
  exact k R' h' hle hA κ h0 f a w hf ha hs
theorem W_updE {c : Code} {A : List SL → PH → Prop} (u : UpdE R h A) (k : ∀ R' h', le h h' → A R' h' → W P n c ⟨E, D, R', h'⟩ Q) : W P n c ⟨E, D, R, h⟩ Q := fun κ h0 f a w hf ha hw => by
  obtain ⟨R', h', hle, hA, hs⟩ := u κ h0 f w hf hw
  exact k R' h' hle hA κ h0 f a w hf ha hs
theorem RetOk_updE {fn : Func} {K : Post} {A : List SL → PH → Prop} (u : UpdE R h A) (k : ∀ R' h', le h h' → A R' h' → RetOk P n fn ⟨E, D, R', h'⟩ K) : RetOk P n fn ⟨E, D, R, h⟩ K := fun κ h0 f a w hf ha hw => by
  obtain ⟨R', h', hle, hA, hs⟩ := u κ h0 f w hf hw
  exact k R' h' hle hA κ h0 f a w hf ha hs
/-- A block is known for good. -/
theorem UpdE.freeze (i : Nat) {b : Nat} {o : Obj} (hi : R[i]? = some (obj b o)) : UpdE R h fun R' h' => R' = R.eraseIdx i ∧ h' b = some o := fun κ h0 f w hf s => by
  refine ⟨_, _, le_un_left _ _, ⟨rfl, ?_⟩, s.freeze hi⟩
  have hn : h b = none := by
    obtain ⟨_, g, k, e, hr, hgf, hkf, hgk, _⟩ := s
    obtain ⟨x, y, rfl, hd, hx, _, _⟩ := stars_get hi hr
    have hx : x = one b o := hx
    subst hx
    have h1 := (dj_un_left.1 hgf).1 b
    have h2 := (dj_un_left.1 hgk).1 b
    simp only [one, if_true] at h1 h2
    rw [e, un_eq_none]
    refine ⟨?_, by simpa using h2⟩
    cases hh : h0 b with
    | none => rfl
    | some o' => have := hf b o' hh; rw [this] at h1; simp at h1
  simp [un, one, hn]
/-- What a resource says for some x, it says for that x. -/
theorem UpdE.ex (i : Nat) {X : Type} {r : X → SL} (hi : R[i]? = some (fun g => ∃ x, r x g)) : UpdE R h fun R' h' => h' = h ∧ ∃ x, R' = R.set i (r x) := fun κ h0 f w _ s => by
  obtain ⟨a, g, k, e, hr, hgf, hkf, hgk, hg, hk, hw⟩ := s
  obtain ⟨x, y, rfl, hd, ⟨z, hz⟩, hset, _⟩ := stars_get hi hr
  exact ⟨R.set i (r z), h, le.refl _, ⟨rfl, z, rfl⟩, a, un x y, k, e, hset _ _ hz hd, hgf, hkf, hgk, hg, hk, hw⟩
theorem UpdE.pblk (i : Nat) {v : Value} {c : List Value} {t : TypeId} (hi : R[i]? = some (pblk v c t)) : UpdE R h fun R' h' => h' = h ∧ ∃ b, v = .pointer (some ⟨b, 0, none⟩) ∧ R' = R.set i (blk b c t) := fun κ h0 f w _ s => by
  obtain ⟨a, g, k, e, hr, hgf, hkf, hgk, hg, hk, hw⟩ := s
  obtain ⟨x, y, rfl, hd, ⟨b, hb, hz⟩, hset, _⟩ := stars_get hi hr
  exact ⟨R.set i (blk b c t), h, le.refl _, ⟨rfl, b, hb, rfl⟩, a, un x y, k, e, hset _ _ hz hd, hgf, hkf, hgk, hg, hk, hw⟩

theorem W_keep {c : Code} {E1 : Env} (hE : SubE E E1) (k : W P n c ⟨E1, D, R, h⟩ Q) : W P n c ⟨E, D, R, h⟩ Q := W_weaken (s1 := ⟨E1, D, R, h⟩) ⟨hE, rfl, SubR.refl _, rfl⟩ k
theorem W_drop {c : Code} {R1 : List SL} (hR : SubR R R1) (k : W P n c ⟨E, D, R1, h⟩ Q) : W P n c ⟨E, D, R, h⟩ Q := W_weaken (s1 := ⟨E, D, R1, h⟩) ⟨SubE.refl _, rfl, hR, rfl⟩ k

/-- A region that draws, and takes nothing of what is owned. -/
theorem W_draw0 {id : Nat} {l1 l2 : List Oper} (m : Nat) (hP : P.follows .mixedOrders = true) (hl1 : ops.toList.take m = l1) (hl2 : ops.toList.drop m = l2) (hok : drawOk E m l1 l2 = true)
    (hg : RG P n ops E D R h (fun dn => R.Perm (allC dn ++ (R ++ [])) ∧ ((∀ vs h', le h h' → endF vs h' dn → WL P n ops l2 ⟨endE vs dn ++ E, D, endR vs dn ++ (R ++ []), h'⟩ (fun s' => Q .normal s') Q) ∨
      (∀ vs, WL P n ops l2 ⟨endE vs dn ++ E, D, endR vs dn ++ (R ++ []), h⟩ (fun s' => Q .normal s') Q))) 0 l1 []) :
    W P n (.region id ops true) ⟨E, D, R, h⟩ Q := W_draw m E [] R hP hl1 hl2 (SubE.refl _) hok hg
/-- As W_draw0, where operations lay slots that are known, as they are. -/
theorem W_drawO {id : Nat} {l1 l2 : List Oper} (m : Nat) (hP : P.follows .mixedOrders = true) (hl1 : ops.toList.take m = l1) (hl2 : ops.toList.drop m = l2) (hok : drawOk1 m l1 l2 = true)
    (hg : RG P n ops E D R h (fun dn => (R.Perm (allC dn ++ (R ++ [])) ∧ ((∀ vs h', le h h' → endF vs h' dn → WL P n ops l2 ⟨endE vs dn ++ E, D, endR vs dn ++ (R ++ []), h'⟩ (fun s' => Q .normal s') Q) ∨
      (∀ vs, WL P n ops l2 ⟨endE vs dn ++ E, D, endR vs dn ++ (R ++ []), h⟩ (fun s' => Q .normal s') Q))) ∧ (freshIn E (dstsOf l1) = true ∨ ovr E dn)) 0 l1 []) :
    W P n (.region id ops true) ⟨E, D, R, h⟩ Q := W_drawG m E [] R hP hl1 hl2 (SubE.refl _) hok hg
/-- The end of such a region's first part. -/
theorem RG_end {dn : Done} {E0 : Env} {E' : (Nat → Value) → Env} {R' : (Nat → Value) → List SL} {F : (Nat → Value) → PH → Prop} (hC : allC dn = []) (hE : ∀ vs, endE vs dn ++ E0 = E' vs) (hR : ∀ vs, endR vs dn ++ (R ++ []) = R' vs) (hF : ∀ vs h', endF vs h' dn → F vs h')
    (k : ∀ vs h', le h h' → F vs h' → WL P n ops l ⟨E' vs, D, R' vs, h'⟩ K Q) :
    R.Perm (allC dn ++ (R ++ [])) ∧ ((∀ vs h', le h h' → endF vs h' dn → WL P n ops l ⟨endE vs dn ++ E0, D, endR vs dn ++ (R ++ []), h'⟩ K Q) ∨ (∀ vs, WL P n ops l ⟨endE vs dn ++ E0, D, endR vs dn ++ (R ++ []), h⟩ K Q)) :=
  ⟨by rw [hC]; simp, .inl fun vs h' hle hf => by rw [hE, hR]; exact k vs h' hle (hF vs h' hf)⟩
theorem RG_endv {dn : Done} {E0 E' : Env} (hC : allC dn = []) (hE : ∀ vs, endE vs dn ++ E0 = E') (hR : ∀ vs, endR vs dn = []) (k : WL P n ops l ⟨E', D, R, h⟩ K Q) :
    R.Perm (allC dn ++ (R ++ [])) ∧ ((∀ vs h', le h h' → endF vs h' dn → WL P n ops l ⟨endE vs dn ++ E0, D, endR vs dn ++ (R ++ []), h'⟩ K Q) ∨ (∀ vs, WL P n ops l ⟨endE vs dn ++ E0, D, endR vs dn ++ (R ++ []), h⟩ K Q)) :=
  ⟨by rw [hC]; simp, .inr fun vs => by rw [hE, hR]; simpa using k⟩
def resO : List Value → Option Value
  | [v] => some v
  | vs => some (.tuple vs.toArray)
theorem resO_eq {vs : List Value} {v : Value} (h : resO vs = some v) : resV vs = v := by
  match vs with
  | [] => simpa [resO, resV] using h
  | [v] => simpa [resO, resV] using h
  | u :: v :: r => simpa [resO, resV] using h
/-- The end of a function: its results lie in slots. -/
theorem Body_end {fn : Func} {A : Value → List SL → PH → Prop} {ts : List Tmp} {vs : List Value} {v : Value} {R1 : List SL} (h1 : tmpsOf fn.results.toList = some ts) (h2 : lks E ts = some vs) (h3 : resO vs = some v) (hR : SubR R R1) (hA : A v R1 h) :
    Body P n fn (Ret A) .ret ⟨E, [], R, h⟩ := by
  have h3 := resO_eq h3; subst h3; exact Body_ret rfl (RetOk_upd (Upd.sub hR) (RetOk_tmps h1 h2 hA))
theorem Body_end0 {fn : Func} {A : Value → List SL → PH → Prop} {ts : List Tmp} {vs : List Value} {v : Value} {R1 : List SL} (h1 : tmpsOf fn.results.toList = some ts) (h2 : lks E ts = some vs) (h3 : resO vs = some v) (hR : SubR R R1) (hA : A v R1 h) :
    Body P n fn (Ret A) .normal ⟨E, [], R, h⟩ := by
  have h3 := resO_eq h3; subst h3; exact Body_normal rfl (RetOk_upd (Upd.sub hR) (RetOk_tmps h1 h2 hA))
theorem SlN {j : Nat} : ((j : Int)).toNat = j := rfl
end
section
variable {P : Program} {n : Nat} {ops : Array Oper} {l : List Oper} {o : Oper} {E E0 : Env} {D : List Deferred} {R : List SL} {h : PH} {K : S → Prop} {Q : Exit → S → Prop} {K' : Done → Prop} {i : Nat} {dn : Done}
theorem WL_index_slN {α : Type} {enc : α → List Value} {sz : Nat} {x y : Operand} {t e : TypeId} {v : Value} {L : List α} {k : IntKind} {j : Nat} {d : Tmp} (ho : o.op = .indexAddr t x y) (ht : slOf P t = some e) (hs : szOf P e = some sz)
    (hx : ev E x = some v) (hy : ev E y = some (.int k (j : Int))) (hv : Sl enc sz h v L) (h1 : j < L.length) (hd : o.dst = some d) (hg : gd ops E o = some true) (hn : Nat.blt d n = true)
    (kk : ∀ p, At h p (enc L[j]) → WL P n ops l ⟨(d, p) :: E, D, R, h⟩ K Q) : WL P n ops (o :: l) ⟨E, D, R, h⟩ K Q := by
  obtain ⟨p, h2, h3⟩ := hv.idx h1
  exact WL_is (h3 ho ht hs hx hy (Int.natCast_nonneg j) rfl) hd hg hn (kk p h2)
theorem RG_index_slN {α : Type} {enc : α → List Value} {sz : Nat} {x y : Operand} {t e : TypeId} {v : Value} {L : List α} {k : IntKind} {j : Nat} {d : Tmp} (ho : o.op = .indexAddr t x y) (ht : slOf P t = some e) (hs : szOf P e = some sz)
    (hx : ∀ vs, ev (av o.after.toList vs dn ++ E0) x = some v) (hy : ∀ vs, ev (av o.after.toList vs dn ++ E0) y = some (.int k (j : Int))) (hv : Sl enc sz h v L) (h1 : j < L.length) (hd : o.dst = some d) (hn : Nat.blt d n = true) (hg : ∀ vs, gd ops (av o.after.toList vs dn ++ E0) o = some true)
    (kk : ∀ p, At h p (enc L[j]) → RG P n ops E0 D R h K' (i + 1) l ((i, some d, .val p) :: dn)) : RG P n ops E0 D R h K' i (o :: l) dn := by
  obtain ⟨p, h2, h3⟩ := hv.idx h1
  exact RG_val hd hn hg (fun vs => h3 ho ht hs (hx vs) (hy vs) (Int.natCast_nonneg j) rfl) (kk p h2)
end
end Go.Par

/- Engine, part 10: values built, slices made, cut, appended to. It speaks of no program. -/
namespace Go.Par
open Go PH

/-! Building -/
def szs (P : Program) : List Field → Option (List (Nat × Nat))
  | [] => some []
  | f :: r => match szOf P f.type with
    | some s => (match szs P r with
      | some l => some ((f.offset, s) :: l)
      | none => none)
    | none => none
def fillO (pl : Nat → Option (Nat × Nat)) : List Value → List (Nat × Value) → Option (List Value)
  | cs, [] => some cs
  | cs, (i, v) :: r => match pl i with
    | some (off, size) => (match vcO v with
      | some vs => (match Nat.beq vs.length size && Nat.ble (off + size) cs.length with
        | true => (match wrO cs off vs with
          | some cs' => fillO pl cs' r
          | none => none)
        | false => none)
      | none => none)
    | none => none
theorem fold_wr : ∀ (vs : List Value) (off k : Nat) (cs : List Value), (vs.zipIdx k).foldl (fun (cs : Array Value) x => cs.setIfInBounds (off + x.2) x.1) cs.toArray = (wr cs (off + k) vs).toArray
  | [], _, _, _ => rfl
  | v :: vs, off, k, cs => by
    simp only [List.zipIdx_cons, List.foldl_cons, wr]
    have : cs.toArray.setIfInBounds (off + k) v = (cs.set (off + k) v).toArray := by simp
    rw [this, fold_wr vs off (k + 1) _]
    rfl
theorem fill_fillO {pl : Nat → Option (Nat × Nat)} : ∀ {ps : List (Nat × Value)} {cs cs' : List Value}, fillO pl cs ps = some cs' → Instr.fill pl cs.toArray ps = some cs'.toArray
  | [], cs, cs', h => by simp [fillO] at h; subst h; rfl
  | (i, v) :: r, cs, cs', h => by
    simp only [fillO] at h
    split at h
    · rename_i off size hpl
      split at h
      · rename_i vs hvs
        split at h
        · rename_i hb
          split at h
          · rename_i c1 hc
            have hv := vcO_eq hvs
            simp only [Bool.and_eq_true] at hb
            have hsz := Nat.eq_of_beq_eq_true hb.1
            have hle := Nat.le_of_ble_eq_true hb.2
            obtain ⟨h1, _⟩ := wrO_eq hc
            have e1 : v.cells.size = size := by rw [vc_cells, hv]; simpa using hsz
            unfold Instr.fill
            simp only [hpl]
            have hfold : v.cells.zipIdx.foldl (fun (cs : Array Value) x => cs.setIfInBounds (off + x.2) x.1) cs.toArray = c1.toArray := by
              rw [← Array.foldl_toList, Array.toList_zipIdx, vc_cells, hv]
              have := fold_wr vs off 0 cs
              simpa [h1] using this
            rw [if_neg (by simp [e1]; exact hle)]
            exact (congrArg (fun x => Instr.fill pl x r) hfold).trans (fill_fillO h)
          · cases h
        · cases h
      · cases h
    · cases h

def evp (E : Env) : List (Nat × Operand) → Option (List (Nat × Value))
  | [] => some []
  | (i, x) :: r => match ev E x with
    | some v => (match evp E r with
      | some vs => some ((i, v) :: vs)
      | none => none)
    | none => none
theorem evp_eq {n : Nat} {E : Env} {D : List Deferred} {a : Act} (ha : EnvOk n E D a) : ∀ {ps : List (Nat × Operand)} {vs : List (Nat × Value)}, evp E ps = some vs → ps.map (fun (i, x) => (i, a.eval x)) = vs
  | [], vs, h => by simp [evp] at h; simp [h]
  | (i, x) :: r, vs, h => by
    simp only [evp] at h
    split at h
    · rename_i v hv
      split at h
      · rename_i us hus
        simp at h; subst h
        simp [ha.ev hv, evp_eq ha hus]
      · cases h
    · cases h
/-- The struct's or array's cells with some parts laid. -/
def bldO (P : Program) (t : TypeId) (ps : List (Nat × Value)) : Option (List Value) :=
  match P.underlying t, zeOf P t with
  | some (.struct fs), some z => (match szs P fs.toList, vcO z with
    | some l, some zs => fillO (fun i => l[i]?) zs ps
    | _, _ => none)
  | some (.array _ e), some z => (match szOf P e, vcO z with
    | some s, some zs => fillO (fun i => some (i * s, s)) zs ps
    | _, _ => none)
  | _, _ => none
theorem run_szs {P : Program} (w : World) : ∀ {fs : List Field} {l : List (Nat × Nat)}, szs P fs = some l → (fs.mapM fun f => (do pure (f.offset, ← sizeOf f.type) : Sem (Nat × Nat))).run P w = .ok l w
  | [], l, h => by simp [szs] at h; subst h; simp
  | f :: r, l, h => by
    simp only [szs] at h
    split at h
    · rename_i s hs
      split at h
      · rename_i l' hl
        simp at h; subst h
        have := run_szs w hl
        simp only [List.mapM_cons, Sem.run_bind, run_sizeOf w hs, Result.andThen_ok, Sem.run_pure, this]
      · cases h
    · cases h
theorem run_build {P : Program} (w : World) {t : TypeId} {ps : List (Nat × Value)} {cs : List Value} (h : bldO P t ps = some cs) : (Instr.build t ps.toArray).run P w = .ok (.agg cs.toArray) w := by
  unfold bldO at h
  split at h
  · rename_i fs z hu hz
    split at h
    · rename_i l zs hl hzs
      have hz' := vcO_eq hzs
      have e1 : z.cells = zs.toArray := by rw [vc_cells, hz']
      have e2 := run_szs w hl
      have e3 := fill_fillO h
      simp only [Instr.build, Sem.run_bind, run_zeroValue w hz, Result.andThen_ok, run_underlying w hu]
      rw [Array.mapM_eq_mapM_toList, Sem.run_map, e2]
      simp only [Result.andThen_ok, e1]
      have e4 : (fun (x : Nat) => (l.toArray[x]? : Option (Nat × Nat))) = fun i => l[i]? := by funext x; simp
      rw [e4, e3]
      rfl
    · cases h
  · rename_i m e z hu hz
    split at h
    · rename_i s zs hs hzs
      have hz' := vcO_eq hzs
      have e1 : z.cells = zs.toArray := by rw [vc_cells, hz']
      have e3 := fill_fillO h
      simp only [Instr.build, Sem.run_bind, run_zeroValue w hz, Result.andThen_ok, run_underlying w hu, run_sizeOf w hs, e1, e3]
      rfl
    · cases h
  · cases h

section
variable {P : Program} {n : Nat} {ops : Array Oper} {l : List Oper} {o : Oper} {E : Env} {D : List Deferred} {R : List SL} {h : PH} {K : S → Prop} {Q : Exit → S → Prop}
theorem X_build {t : TypeId} {ps : Array (Nat × Operand)} {vs : List (Nat × Value)} {cs : List Value} (ho : o.op = .build t ps) (hp : evp E ps.toList = some vs) (hb : bldO P t vs = some cs) : Exec P n o ⟨E, D, R, h⟩ (Is (.agg cs.toArray) R h) :=
  Exec_is fun a w ha => by
    have e : ps.map (fun (i, x) => (i, a.eval x)) = vs.toArray := map_arr (evp_eq ha hp)
    simp only [execOp, ho, e, Sem.run_bind, run_build w hb, Result.andThen_ok, Sem.run_pure]
theorem WL_box {x : Operand} {t : TypeId} {v : Value} {vs : List Value} {d : Tmp} (ho : o.op = .box t x) (hx : ev E x = some v) (hv : vcO v = some vs) (hd : o.dst = some d) (hg : gd ops E o = some true) (hn : Nat.blt d n = true)
    (k : ∀ b, WL P n ops l ⟨(d, .pointer (some ⟨b, 0, none⟩)) :: E, D, blk b vs t :: R, h⟩ K Q) : WL P n ops (o :: l) ⟨E, D, R, h⟩ K Q := WL_boxV ho hx (vcO_eq hv) hd hg hn k
theorem WL_alloc {t : TypeId} {z : Value} {vs : List Value} {d : Tmp} (ho : o.op = .alloc t) (hz : zeOf P t = some z) (hv : vcO z = some vs) (hd : o.dst = some d) (hg : gd ops E o = some true) (hn : Nat.blt d n = true)
    (k : ∀ b, WL P n ops l ⟨(d, .pointer (some ⟨b, 0, none⟩)) :: E, D, blk b vs t :: R, h⟩ K Q) : WL P n ops (o :: l) ⟨E, D, R, h⟩ K Q := WL_allocV ho hz (vcO_eq hv) hd hg hn k
theorem WL_store {x y : Operand} {t t0 : TypeId} {b off i sz : Nat} {c c' vs : List Value} {v : Value} {R' : List SL} (ho : o.op = .store t x y) (hx : ev E x = some (.pointer (some ⟨b, off, none⟩))) (hy : ev E y = some v)
    (hi : R[i]? = some (blk b c t0)) (hs : szOf P t = some sz) (hv : vcO v = some vs) (hl : Nat.beq vs.length sz = true) (hf : vs.all flat = true) (hc : Nat.ble (off + sz) c.length = true) (hd : o.dst = none) (hg : gd ops E o = some true)
    (hc' : wrO c off vs = some c') (hR : setR R i (blk b c' t0) = some R')
    (k : WL P n ops l ⟨E, D, R', h⟩ K Q) : WL P n ops (o :: l) ⟨E, D, R, h⟩ K Q :=
  WL_storeV ho hx hy hi hs (vcO_eq hv) (Nat.eq_of_beq_eq_true hl) hf (Nat.le_of_ble_eq_true hc) hd hg (wrO_eq hc').1 (setR_eq hR) k
end
end Go.Par

/- Engine, part 11: slices of one's own: made, appended to; slices cut. It speaks of no program. -/
namespace Go.Par
open Go PH

/-- A slice of one's own: nil, or at the head of a block of one's own, whose first cells are 'xs'. -/
def row (v : Value) (e : TypeId) (sz m : Nat) (xs : List Value) : SL := fun g =>
  xs.length = m * sz ∧ ((v = .slice none 0 0 ∧ m = 0 ∧ g = none_) ∨
    ∃ b cap c, v = .slice (some ⟨b, 0, none⟩) m cap ∧ m ≤ cap ∧ c.length = cap * sz ∧ c.take (m * sz) = xs ∧ blk b c e g)

/-- Where a slice's cells are read, whoever has them. -/
def Src (P : Program) (R : List SL) (h : PH) (v : Value) (sz m : Nat) (ys : List Value) : Prop :=
  ys.length = m * sz ∧ (∃ a cap, v = .slice a m cap) ∧ ∀ (κ : World) (h0 f : PH) (w : World), le h0 f → St κ h0 f R h w → (Builtin.firstCells sz m v).run P w = .ok ys.toArray w

section
variable {P : Program} {R : List SL} {h : PH} {v : Value} {sz m : Nat} {ys : List Value}

theorem Src.sl {α : Type} {enc : α → List Value} {L : List α} (hv : Sl enc sz h v L) : Src P R h v sz L.length (L.flatMap enc) := by
  obtain ⟨h1, a, cap, e, hc, hn, hx⟩ := hv
  have hlen : ∀ (M : List α), (∀ x ∈ M, (enc x).length = sz) → (M.flatMap enc).length = M.length * sz := by
    intro M
    induction M with
    | nil => intro _; simp
    | cons x M ih =>
      intro hM
      simp only [List.flatMap_cons, List.length_append, List.length_cons, hM x (by simp), ih (fun y hy => hM y (by simp [hy])), Nat.add_mul]
      omega
  refine ⟨hlen L h1, ⟨a, cap, e⟩, fun κ h0 f w hf s => ?_⟩
  subst e
  rcases hx with hx | ⟨b, off, c, t, fr, ea, hb, hj⟩
  · subst hx
    cases a with
    | none => simp [Builtin.firstCells]
    | some a => simp [Builtin.firstCells, loadCells, loadCellsFrom]
  · subst ea
    have hb' := s.h_in hf _ _ hb
    have hget : ∀ (M : List α) (k : Nat), (∀ x ∈ M, (enc x).length = sz) → (∀ i (hi : i < M.length) j, j < sz → c[k + i * sz + j]? = (enc M[i])[j]?) → rd c k (M.length * sz) = some (M.flatMap enc) := by
      intro M
      induction M with
      | nil => intro k _ _; simp [rd]
      | cons x M ih =>
        intro k hM hj
        refine rd_of (by rw [hlen _ hM]) ?_
        intro j hlt
        have hx := hM x (by simp)
        have hr := (rd_spec (ih (k + sz) (fun y hy => hM y (by simp [hy])) (fun i hi j hjs => by
          have := hj (i + 1) (by simp; omega) j hjs
          simp only [List.getElem_cons_succ] at this
          rw [← this]; congr 1; rw [Nat.add_mul]; omega))).2
        simp only [List.length_cons, Nat.add_mul, Nat.one_mul] at hlt
        simp only [List.flatMap_cons]
        rcases Nat.lt_or_ge j sz with h' | h'
        · have := hj 0 (by simp) j h'
          simp only [List.getElem_cons_zero, Nat.zero_mul, Nat.add_zero] at this
          rw [this, List.getElem?_append_left (by omega)]
        · have := hr (j - sz) (by omega)
          rw [show k + sz + (j - sz) = k + j from by omega] at this
          rw [this, List.getElem?_append_right (by omega), hx]
    have := hget L off h1 (fun i hi j hjs => hj i hi j hjs)
    simp [Builtin.firstCells, run_loadCells_at hb' this]
theorem Src.own {b off cap i : Nat} {c : List Value} {t : TypeId} (hi : R[i]? = some (blk b c t)) (hr : rd c off (m * sz) = some ys) : Src P R h (.slice (some ⟨b, off, none⟩) m cap) sz m ys :=
  ⟨(rd_spec hr).1, ⟨_, _, rfl⟩, fun κ h0 f w _ s => by simp [Builtin.firstCells, run_loadCells_at (s.obj_at hi) hr]⟩
theorem Src.row {i : Nat} {e : TypeId} (hi : R[i]? = some (row v e sz m ys)) : (∃ κ h0 f w, le h0 f ∧ St κ h0 f R h w) → Src P R h v sz m ys := by
  rintro ⟨κ, h0, f, w, hf, s⟩
  have key : ∀ κ h0 f w, le h0 f → St κ h0 f R h w → ys.length = m * sz ∧ (∃ a cap, v = .slice a m cap) ∧ (Builtin.firstCells sz m v).run P w = .ok ys.toArray w := by
    intro κ h0 f w hf s
    obtain ⟨_, g, k, e', hr, _, _, _, hg, _⟩ := s
    obtain ⟨x, y, rfl, hd, ⟨hl, hx⟩, _, _⟩ := stars_get hi hr
    rcases hx with ⟨rfl, rfl, _⟩ | ⟨b, cap, c, rfl, hm, hc, ht, hb⟩
    · simp at hl; subst hl
      exact ⟨by simp, ⟨_, _, rfl⟩, by simp [Builtin.firstCells]⟩
    · have hb : x = one b _ := hb
      subst hb
      have hb' := hg b _ (by simp [un, one]; rfl)
      refine ⟨hl, ⟨_, _, rfl⟩, ?_⟩
      have : rd c 0 (m * sz) = some ys := rd_of hl fun j hj => by rw [← ht, List.getElem?_take, if_pos hj, Nat.zero_add]
      simp [Builtin.firstCells, run_loadCells_at hb' this]
  obtain ⟨h1, h2, _⟩ := key κ h0 f w hf s
  exact ⟨h1, h2, fun κ h0 f w hf s => (key κ h0 f w hf s).2.2⟩
end

/-- What an element type must be for its rows. -/
structure ElemT (P : Program) (t e : TypeId) (sz by_ : Nat) : Prop where
  sl : slOf P t = some e
  z : ∃ i zv, P.info? e = some i ∧ i.zero = some zv ∧ i.size = sz ∧ i.bytes = by_ ∧ zv.cells.size = sz
def elemOk (P : Program) (e : TypeId) (sz by_ : Nat) : Bool :=
  match P.info? e with
  | some i => (match i.zero with
    | some z => Nat.beq i.size sz && Nat.beq i.bytes by_ && (match vcO z with | some l => Nat.beq l.length sz | none => false)
    | none => false)
  | none => false
theorem ElemT.mk' {P : Program} {t e : TypeId} {sz by_ : Nat} (h1 : slOf P t = some e) (h2 : elemOk P e sz by_ = true) : ElemT P t e sz by_ := by
  refine ⟨h1, ?_⟩
  unfold elemOk at h2
  split at h2
  · rename_i i hi
    split at h2
    · rename_i z hz
      simp only [Bool.and_eq_true] at h2
      obtain ⟨⟨a, b⟩, c⟩ := h2
      split at c
      · rename_i l hl
        refine ⟨i, z, hi, hz, Nat.eq_of_beq_eq_true a, Nat.eq_of_beq_eq_true b, ?_⟩
        rw [vc_cells, vcO_eq hl]
        simpa using Nat.eq_of_beq_eq_true c
      · cases c
    · cases h2
  · cases h2

theorem zeroCells_size (z : Array Value) (k : Nat) : (Builtin.zeroCells z k).size = k * z.size := by simp [Builtin.zeroCells]

section
variable {κ : World} {h0 f : PH} {R : List SL} {h : PH} {w : World}
theorem St.setObj {i : Nat} {r r' : SL} (s : St κ h0 f R h w) (hi : R[i]? = some r) (hr : ∀ g, r g → r' g) : St κ h0 f (R.set i r') h w := by
  obtain ⟨a, g, k, e, hs, rest⟩ := s
  obtain ⟨x, y, rfl, hd, hx, hset, _⟩ := stars_get hi hs
  exact ⟨a, un x y, k, e, hset _ _ (hr _ hx) hd, rest⟩
end

theorem set_perm {α : Type} {x : α} : ∀ {R : List α} {i : Nat}, i < R.length → (R.set i x).Perm (x :: R.eraseIdx i)
  | [], _, h => by simp at h
  | y :: R, 0, _ => by simp
  | y :: R, i + 1, h => by
    simp only [List.set_cons_succ, List.eraseIdx_cons_succ]
    exact ((set_perm (R := R) (i := i) (by simpa using h)).cons y).trans (.swap _ _ _)
theorem get_perm {α : Type} {x : α} : ∀ {R : List α} {i : Nat}, R[i]? = some x → R.Perm (x :: R.eraseIdx i)
  | [], _, h => by simp at h
  | y :: R, 0, h => by simp at h; subst h; simp
  | y :: R, i + 1, h => by
    simp only [List.eraseIdx_cons_succ]
    exact ((get_perm (R := R) (i := i) (by simpa using h)).cons y).trans (.swap _ _ _)

/-- append where a new row is made. -/
theorem run_append_grow' {P : Program} {w : World} {t tx e : TypeId} {sz by_ m k cap : Nat} {base : Option Addr} {x : Value} {xs ys : List Value} (ht : ElemT P t e sz by_) (htx : slOf P tx = some e) (hkx : ∃ a c, x = .slice a k c)
    (hold : (Builtin.firstCells sz m (.slice base m cap)).run P w = .ok xs.toArray w) (hnew : ∀ (w' : World), w'.heap = w.heap → (Builtin.firstCells sz k x).run P w' = .ok ys.toArray w')
    (hold' : ∀ (w' : World), w'.heap = w.heap → (Builtin.firstCells sz m (.slice base m cap)).run P w' = .ok xs.toArray w')
    (hg : ¬ m + k ≤ cap) (hb : (m + k) * by_ ≤ 140737488355328) (hm : m + k ≤ 9223372036854775807) (ty : TypeId) :
    ∃ cap' rest, m + k ≤ cap' ∧ rest.length = (cap' - (m + k)) * sz ∧ (Builtin.append_ #[t, tx] ty #[.slice base m cap, x]).run P w = .ok (.slice (some ⟨w.heap.size, 0, none⟩) (m + k) cap') { w with drawn := w.drawn + 1, heap := w.heap.push (.cells (xs ++ ys ++ rest).toArray e (0, 0)) } := by
  obtain ⟨hsl, inf, zv, hinf, hz, hsz, hby, hzs⟩ := ht
  obtain ⟨a2, c2, rfl⟩ := hkx
  have hfit := growslice_fits (need := m + k) (old := cap) (bytes := by_) (by omega) hb
  let q : Question := .appendCap (m + k) cap e
  let cap' := q.cut (w.tape w.drawn q)
  have hcap' : m + k ≤ cap' := by simp only [cap', q, Question.cut]; omega
  refine ⟨cap', (Builtin.zeroCells zv.cells (cap' - (m + k))).toList, hcap', by simp [zeroCells_size, hzs], ?_⟩
  have h1 := hold' w.drew rfl
  have h2 := hnew w.drew rfl
  subst hsz; subst hby
  have h63' : ¬ (9223372036854775807 < ((m : Int) + (k : Int))) := by omega
  have h48' : ¬ (281474976710656 < Builtin.nextslicecap (m + k) cap * inf.bytes) := by omega
  simp [Builtin.append_, run_underlying w (slOf_under hsl), run_underlying w (slOf_under htx), sizeOf, typeInfo, zeroValue, hinf, hz, Builtin.lenOf, hg, h63', h48', Question.forced, h1, h2, newRow]
  refine ⟨rfl, ?_⟩
  unfold World.alloc World.drew
  congr 2
  simp [cap', q]

/-- append where there is room. -/
theorem run_append_room' {P : Program} {w : World} {t tx e : TypeId} {sz by_ m k cap b : Nat} {c : List Value} {x : Value} {ys : List Value} (ht : ElemT P t e sz by_) (htx : slOf P tx = some e) (hkx : ∃ a c, x = .slice a k c)
    (hnew : (Builtin.firstCells sz k x).run P w = .ok ys.toArray w) (hb : w.heap[b]? = some (.cells c.toArray e (0, 0))) (hl : ys.length = k * sz) (hc : c.length = cap * sz) (hg : m + k ≤ cap) (hfl : ys.all flat = true) (ty : TypeId) :
    (Builtin.append_ #[t, tx] ty #[.slice (some ⟨b, 0, none⟩) m cap, x]).run P w = .ok (.slice (some ⟨b, 0, none⟩) (m + k) cap) (setRow w b (wr c (m * sz) ys) e) := by
  obtain ⟨hsl, inf, zv, hinf, hz, hsz, hby, hzs⟩ := ht
  obtain ⟨a2, c2, rfl⟩ := hkx
  subst hsz
  have hle : m * inf.size + k * inf.size ≤ cap * inf.size := by rw [← Nat.add_mul]; exact Nat.mul_le_mul_right _ hg
  have hst := run_storeCells_at (P := P) (b := b) (off := m * inf.size) (i := 0) (vs := ys) hb (by omega) hfl
  simp only [Nat.add_zero] at hst
  simp [Builtin.append_, run_underlying w (slOf_under hsl), run_underlying w (slOf_under htx), sizeOf, typeInfo, hinf, Builtin.lenOf, hg, hnew, add_spot, hst]

/-- append, of a row of one's own. -/
theorem run_append {P : Program} {κ : World} {h0 f : PH} {R : List SL} {h : PH} {w : World} {i : Nat} {t tx e : TypeId} {sz by_ m k : Nat} {v x : Value} {xs ys : List Value} (hf : le h0 f) (s : St κ h0 f R h w)
    (ht : ElemT P t e sz by_) (htx : slOf P tx = some e) (hi : R[i]? = some (row v e sz m xs)) (hsrc : Src P R h x sz k ys) (hfl : ys.all flat = true) (hb : (m + k) * by_ ≤ 140737488355328) (hm : m + k ≤ 9223372036854775807) (ty : TypeId) :
    ∃ v' w', (Builtin.append_ #[t, tx] ty #[v, x]).run P w = .ok v' w' ∧ St κ h0 f (R.set i (row v' e sz (m + k) (xs ++ ys))) h w' := by
  obtain ⟨hyl, hkx, hyr⟩ := hsrc
  have hiL : i < R.length := by
    rcases Nat.lt_or_ge i R.length with h | h
    · exact h
    · simp [List.getElem?_eq_none h] at hi
  have hst := s
  obtain ⟨hw4, g, kk, eh, hstars, hgf, hkf, hgk, hg, hk, hwf⟩ := s
  obtain ⟨x1, y1, rfl, hd, ⟨hxl, hrow⟩, hset, her⟩ := stars_get hi hstars
  have hnew : ∀ (w' : World), w'.heap = w.heap → (Builtin.firstCells sz k x).run P w' = .ok ys.toArray w' := fun w' e => by
    have hs' : St w' h0 f R h w' := by
      obtain ⟨_, q⟩ := hst.same (w' := { w with drawn := w.drawn }) rfl rfl rfl (Nat.le_refl _) (fun _ _ z => z)
      obtain ⟨g', k', e1, e2, e3, e4, e5, e6, e7, e8⟩ := q
      exact ⟨⟨rfl, rfl, rfl, Nat.le_refl _⟩, g', k', e1, e2, e3, e4, e5, fun b o z => by rw [e]; exact e6 b o z, fun b o z => by rw [e]; exact e7 b o z, fun b o z => by rw [e]; exact e8 b o z⟩
    exact hyr w' h0 f w' hf hs'
  -- a new row
  have fresh : ∀ (base : Option Addr) (cap : Nat), v = .slice base m cap → ¬ m + k ≤ cap → (∀ (w' : World), w'.heap = w.heap → (Builtin.firstCells sz m (.slice base m cap)).run P w' = .ok xs.toArray w') →
      ∃ v' w', (Builtin.append_ #[t, tx] ty #[v, x]).run P w = .ok v' w' ∧ St κ h0 f (R.set i (row v' e sz (m + k) (xs ++ ys))) h w' := by
    rintro base cap rfl hgt hold
    obtain ⟨cap', rest, hc1, hc2, hrun⟩ := run_append_grow' (P := P) (w := w) ht htx hkx (hold w rfl) hnew hold hgt hb hm ty
    refine ⟨_, _, hrun, ?_⟩
    have h1 := (hst.drawn (w.drawn + 1)).new (.cells (xs ++ ys ++ rest).toArray e (0, 0))
    have h2 := h1.drop (i := i + 1)
    simp only [List.eraseIdx_cons_succ] at h2
    refine St.perm (set_perm hiL).symm ?_
    refine (h2.setObj (i := 0) rfl (r' := row (.slice (some ⟨w.heap.size, 0, none⟩) (m + k) cap') e sz (m + k) (xs ++ ys)) ?_)
    intro g hg
    refine ⟨by rw [List.length_append, hxl, hyl, Nat.add_mul], .inr ⟨w.heap.size, cap', _, rfl, hc1, ?_, ?_, hg⟩⟩
    · have : (m + k) * sz + (cap' - (m + k)) * sz = cap' * sz := by rw [← Nat.add_mul]; congr 1; omega
      simp only [List.length_append, hxl, hyl, hc2]
      rw [← Nat.add_mul]; exact this
    · rw [List.take_append_of_le_length (by rw [List.length_append, hxl, hyl, Nat.add_mul]; omega)]
      rw [List.take_of_length_le (by rw [List.length_append, hxl, hyl, Nat.add_mul]; omega)]
  rcases hrow with ⟨rfl, rfl, hx1⟩ | ⟨b, cap, c, rfl, hmc, hcl, htk, hblk⟩
  · simp at hxl; subst hxl
    by_cases hk0 : k = 0
    · subst hk0
      have hyn : ys = [] := by simpa using hyl
      subst hyn
      obtain ⟨hsl, inf, zv, hinf, hz, hsz, hby, hzs⟩ := ht
      obtain ⟨a2, c2, rfl⟩ := hkx
      refine ⟨.slice none 0 0, w, ?_, ?_⟩
      · have := hnew w rfl
        subst hsz
        simp [Builtin.append_, run_underlying w (slOf_under hsl), run_underlying w (slOf_under htx), sizeOf, typeInfo, hinf, Builtin.lenOf, this]
      · exact hst.setObj hi (fun g hg => by simpa using hg)
    · exact fresh none 0 rfl (by omega) (fun w' _ => by simp [Builtin.firstCells])
  · have hblk : x1 = one b _ := hblk
    subst hblk
    have hbw : w.heap[b]? = some (.cells c.toArray e (0, 0)) := hg b _ (by simp [un, one])
    have hold : ∀ (w' : World), w'.heap = w.heap → (Builtin.firstCells sz m (.slice (some ⟨b, 0, none⟩) m cap)).run P w' = .ok xs.toArray w' := fun w' e1 => by
      have hrd : rd c 0 (m * sz) = some xs := rd_of hxl fun j hj => by rw [← htk, List.getElem?_take, if_pos hj, Nat.zero_add]
      have hb' : w'.heap[b]? = some (.cells c.toArray e (0, 0)) := by rw [e1]; exact hbw
      simp [Builtin.firstCells, run_loadCells_at hb' hrd]
    by_cases hroom : m + k ≤ cap
    · have hrun := run_append_room' (P := P) (w := w) ht htx hkx (hnew w rfl) hbw hyl hcl hroom hfl ty
      refine ⟨_, _, hrun, ?_⟩
      have hblkR : St κ h0 f (R.set i (blk b c e)) h w := ⟨hw4, _, kk, eh, hset (blk b c e) _ rfl hd, hgf, hkf, hgk, hg, hk, hwf⟩
      have h1 := hblkR.turnRow (i := i) (b := b) (c := c) (c' := wr c (m * sz) ys) (t := e) (by simp [hiL])
      rw [List.set_set] at h1
      have h2 := h1.setObj (i := i) (r := blk b (wr c (m * sz) ys) e) (by simp [hiL]) (r' := row (.slice (some ⟨b, 0, none⟩) (m + k) cap) e sz (m + k) (xs ++ ys)) ?_
      · rw [List.set_set] at h2; exact h2
      · intro g hg
        have hle : m * sz + k * sz ≤ cap * sz := by rw [← Nat.add_mul]; exact Nat.mul_le_mul_right _ hroom
        refine ⟨by rw [List.length_append, hxl, hyl, Nat.add_mul], .inr ⟨b, cap, _, rfl, hroom, by rw [wr_length]; exact hcl, ?_, hg⟩⟩
        apply List.ext_getElem?
        intro j
        rw [List.getElem?_take]
        by_cases hj : j < (m + k) * sz
        · rw [if_pos hj, wr_get (by rw [hyl, hcl]; exact hle)]
          rw [Nat.add_mul] at hj
          by_cases hj2 : m * sz ≤ j ∧ j < m * sz + ys.length
          · rw [if_pos hj2, List.getElem?_append_right (by omega), hxl]
          · rw [if_neg hj2, List.getElem?_append_left (by omega), ← htk, List.getElem?_take, if_pos (by omega)]
        · rw [if_neg hj]
          rw [Nat.add_mul] at hj
          rw [List.getElem?_eq_none (by rw [List.length_append, hxl, hyl]; omega)]
    · exact fresh (some ⟨b, 0, none⟩) cap rfl hroom hold
end Go.Par

/- Engine, part 12: the steps that make, cut and append to slices; equality of structs. It speaks of no program. -/
namespace Go.Par
open Go PH

/-- A slice of one's own that reads as a list. -/
abbrev rowL {α : Type} (enc : α → List Value) (v : Value) (e : TypeId) (sz : Nat) (L : List α) : SL := row v e sz L.length (L.flatMap enc)

theorem Upd.nilrow {R : List SL} {h : PH} {e : TypeId} {sz : Nat} : Upd R h (row (.slice Option.none 0 0) e sz 0 [] :: R) h := fun κ h0 f w _ s => by
  obtain ⟨a, g, k, eh, hr, rest⟩ := s
  exact ⟨a, g, k, eh, ⟨none_, g, (un_none_left g).symm, dj_none_left g, ⟨by simp, .inl ⟨rfl, rfl, rfl⟩⟩, hr⟩, rest⟩

theorem erase_set {α : Type} {x : α} : ∀ {R : List α} {i : Nat}, (R.set i x).eraseIdx i = R.eraseIdx i
  | [], i => by cases i <;> rfl
  | y :: R, 0 => rfl
  | y :: R, i + 1 => by simp only [List.set_cons_succ, List.eraseIdx_cons_succ]; rw [erase_set]
/-- A slice of one's own is known for good. -/
theorem UpdE.row {α : Type} {enc : α → List Value} {R : List SL} {h : PH} {v : Value} {e : TypeId} {sz : Nat} {L : List α} (i : Nat) (hi : R[i]? = some (rowL enc v e sz L)) (he : ∀ x ∈ L, (enc x).length = sz) :
    UpdE R h fun R' h' => R' = R.eraseIdx i ∧ Sl enc sz h' v L := fun κ h0 f w hf s => by
  have hs := s
  obtain ⟨a, g, k, eh, hr, hgf, hkf, hgk, hg, hk, hw⟩ := s
  obtain ⟨x, y, rfl, hd, ⟨hxl, hrow⟩, hset, her⟩ := stars_get hi hr
  rcases hrow with ⟨rfl, h0', hx⟩ | ⟨b, cap, c, rfl, hm, hc, ht, hb⟩
  · have hL : L = [] := List.eq_nil_of_length_eq_zero h0'
    subst hL
    exact ⟨_, h, le.refl _, ⟨rfl, Sl.nil⟩, hs.drop⟩
  · have hblk : St κ h0 f (R.set i (blk b c e)) h w := ⟨a, _, k, eh, hset (blk b c e) _ hb hd, hgf, hkf, hgk, hg, hk, hw⟩
    have hiL : i < R.length := by
      rcases Nat.lt_or_ge i R.length with h | h
      · exact h
      · simp [List.getElem?_eq_none h] at hi
    have hget : (R.set i (blk b c e))[i]? = some (obj b (.cells c.toArray e (0, 0))) := by simp [hiL]
    obtain ⟨R', h', hle, ⟨rfl, hb'⟩, hs'⟩ := UpdE.freeze (h := h) (R := R.set i (blk b c e)) i (b := b) (o := .cells c.toArray e (0, 0)) hget κ h0 f w hf hblk
    refine ⟨R.eraseIdx i, h', hle, ⟨rfl, he, some ⟨b, 0, none⟩, cap, rfl, hm, by simp, .inr ⟨b, 0, c, e, (0, 0), rfl, hb', ?_⟩⟩, ?_⟩
    · intro j hj q hq
      have key : ∀ (M : List α) (pre : List Value), (∀ x ∈ M, (enc x).length = sz) → ∀ j (hj : j < M.length) q, q < sz → (pre ++ M.flatMap enc)[pre.length + j * sz + q]? = (enc M[j])[q]? := by
        intro M
        induction M with
        | nil => intro _ _ j hj; simp at hj
        | cons z M ih =>
          intro pre hM j hj q hq
          have hz := hM z (by simp)
          cases j with
          | zero =>
            simp only [List.flatMap_cons, Nat.zero_mul, Nat.add_zero, List.getElem_cons_zero]
            rw [List.getElem?_append_right (by omega), Nat.add_sub_cancel_left, List.getElem?_append_left (by omega)]
          | succ j =>
            have := ih (pre ++ enc z) (fun x hx => hM x (by simp [hx])) j (by simpa using hj) q hq
            simp only [List.flatMap_cons, List.getElem_cons_succ]
            rw [← this, List.append_assoc]
            congr 1
            simp only [List.length_append, hz, Nat.add_mul]; omega
      have := key L [] he j hj q hq
      simp only [List.nil_append, List.length_nil, Nat.zero_add] at this
      rw [← this, ← ht, List.getElem?_take, if_pos (by
        have : (j + 1) * sz ≤ L.length * sz := Nat.mul_le_mul_right _ hj
        rw [Nat.add_mul] at this; omega)]
      simp
    · rw [erase_set] at hs'; exact hs'

/-- Cells that repeat. -/
def repO : Nat → List Value → Option (List Value)
  | 0, _ => some []
  | k + 1, zs => match repO k zs with
    | some r => forceL (zs ++ r)
    | none => none
theorem repO_eq : ∀ {k : Nat} {zs r : List Value}, repO k zs = some r → r = (List.replicate k zs).flatten
  | 0, zs, r, h => by simp [repO] at h; simp [h]
  | k + 1, zs, r, h => by
    simp only [repO] at h
    split at h
    · rename_i r' hr
      rw [← forceL_eq h, repO_eq hr, List.replicate_succ, List.flatten_cons]
    · cases h
theorem rep_get (zs : List Value) : ∀ (k j : Nat), j < k * zs.length → ((List.replicate k zs).flatten)[j]? = zs[j % zs.length]?
  | 0, j, h => by simp at h
  | k + 1, j, h => by
    rw [List.replicate_succ, List.flatten_cons]
    rcases Nat.lt_or_ge j zs.length with h' | h'
    · rw [List.getElem?_append_left h', Nat.mod_eq_of_lt h']
    · rw [List.getElem?_append_right h', rep_get zs k (j - zs.length) (by rw [Nat.add_mul] at h; omega), Nat.mod_eq_sub_mod h']
theorem rep_arr (zs : List Value) (k : Nat) : (Array.range (k * zs.length)).map (fun j => zs.toArray[j % zs.toArray.size]!) = ((List.replicate k zs).flatten).toArray := by
  apply Array.ext'
  apply List.ext_getElem?
  intro j
  have hl : ((List.replicate k zs).flatten).length = k * zs.length := by simp
  rw [Array.getElem?_toList, Array.getElem?_map]
  rcases Nat.lt_or_ge j (k * zs.length) with h | h
  · have hpos : 0 < zs.length := by
      rcases Nat.eq_zero_or_pos zs.length with h0 | h0
      · rw [h0] at h; simp at h
      · exact h0
    have hlt : j % zs.length < zs.length := Nat.mod_lt _ hpos
    have e1 : (Array.range (k * zs.length))[j]? = some j := by simp [h]
    rw [e1, rep_get zs k j h]
    simp [getElem!_def, List.getElem?_eq_getElem hlt]
  · have e1 : (Array.range (k * zs.length))[j]? = none := by simp [h]
    rw [e1, List.getElem?_eq_none (by simpa using h)]
    rfl

section
variable {P : Program} {n : Nat} {ops : Array Oper} {l : List Oper} {o : Oper} {E : Env} {D : List Deferred} {R : List SL} {h : PH} {K : S → Prop} {Q : Exit → S → Prop}

/-- append to a slice of one's own. -/
theorem WL_append {α : Type} {enc : α → List Value} {x y : Operand} {t tx e : TypeId} {sz by_ i : Nat} {v u : Value} {L L' : List α} {d : Tmp} (ho : o.op = .call ⟨.builtin .append, #[x, y], #[t, tx]⟩) (hx : ev E x = some v) (hy : ev E y = some u)
    (ht : ElemT P t e sz by_) (htx : slOf P tx = some e) (hi : R[i]? = some (rowL enc v e sz L)) (hsrc : Src P R h u sz L'.length (L'.flatMap enc)) (hfl : ∀ x ∈ L', (enc x).all flat = true)
    (hb : (L.length + L'.length) * by_ ≤ 140737488355328) (hm : L.length + L'.length ≤ 9223372036854775807) (hd : o.dst = some d) (hg : gd ops E o = some true) (hn : Nat.blt d n = true)
    (kk : ∀ v', WL P n ops l ⟨(d, v') :: E, D, R.set i (rowL enc v' e sz (L ++ L')), h⟩ K Q) : WL P n ops (o :: l) ⟨E, D, R, h⟩ K Q := by
  refine WL_any (A := fun v' R' h' => R' = R.set i (rowL enc v' e sz (L ++ L')) ∧ h' = h) ?_ hd hg hn fun v' _ _ _ ⟨e1, e2⟩ => by subst e1; subst e2; exact kk v'
  refine Exec_of_run fun κ h0 f a w hf ha hw => ?_
  have hall : (L'.flatMap enc).all flat = true := by
    rw [List.all_flatMap]; simp only [List.all_eq_true]; intro x hx; have := hfl x hx; simpa using this
  obtain ⟨v', w', hr, hs⟩ := run_append hf hw ht htx hi hsrc hall hb hm o.type
  refine ⟨v', _, h, w', .inl ?_, le.refl _, hs, ?_⟩
  · simp only [execOp, ho, resolve, invoke, builtin, Sem.run_bind, Sem.run_pure, Result.andThen_ok]
    simp [ha.ev hx, ha.ev hy, hr]
  · refine ⟨?_, rfl⟩
    simp only [rowL, List.length_append, List.flatMap_append]
/-- append to nil. -/
theorem WL_append_nil {α : Type} {enc : α → List Value} {x y : Operand} {t tx e : TypeId} {sz by_ : Nat} {u : Value} {L' : List α} {d : Tmp} (ho : o.op = .call ⟨.builtin .append, #[x, y], #[t, tx]⟩) (hx : ev E x = some (.slice none 0 0)) (hy : ev E y = some u)
    (ht : ElemT P t e sz by_) (htx : slOf P tx = some e) (hsrc : Src P (row (.slice none 0 0) e sz 0 [] :: R) h u sz L'.length (L'.flatMap enc)) (hfl : ∀ x ∈ L', (enc x).all flat = true)
    (hb : L'.length * by_ ≤ 140737488355328) (hm : L'.length ≤ 9223372036854775807) (hd : o.dst = some d) (hg : gd ops E o = some true) (hn : Nat.blt d n = true)
    (kk : ∀ v', WL P n ops l ⟨(d, v') :: E, D, rowL enc v' e sz L' :: R, h⟩ K Q) : WL P n ops (o :: l) ⟨E, D, R, h⟩ K Q := by
  refine WL_upd (Upd.nilrow (e := e) (sz := sz)) ?_
  exact WL_append (enc := enc) (L := []) (i := 0) ho hx hy ht htx rfl hsrc hfl (by simpa using hb) (by simpa using hm) hd hg hn (by simpa using kk)

/-- A slice written out. -/
theorem WL_buildSlice {t e : TypeId} {len sz : Nat} {ps : Array (Nat × Operand)} {vs : List (Nat × Value)} {z : Value} {zs rs cs : List Value} {d : Tmp} (ho : o.op = .buildSlice t len ps) (hp : evp E ps.toList = some vs) (ht : slOf P t = some e) (hs : szOf P e = some sz)
    (hz : zeOf P e = some z) (hzv : vcO z = some zs) (hzl : Nat.beq zs.length sz = true) (hr : repO len zs = some rs) (hlim : Nat.ble (len * sz) 16777216 = true) (hf : fillO (fun i => some (i * sz, sz)) rs vs = some cs)
    (hd : o.dst = some d) (hg : gd ops E o = some true) (hn : Nat.blt d n = true)
    (kk : ∀ b, WL P n ops l ⟨(d, .slice (some ⟨b, 0, none⟩) len len) :: E, D, blk b cs e :: R, h⟩ K Q) : WL P n ops (o :: l) ⟨E, D, R, h⟩ K Q := by
  refine WL_any (A := fun v' R' h' => ∃ b, v' = .slice (some ⟨b, 0, none⟩) len len ∧ R' = blk b cs e :: R ∧ h' = h) ?_ hd hg hn fun v' _ _ _ ⟨b, e0, e1, e2⟩ => by subst e0; subst e1; subst e2; exact kk b
  refine Exec_of_run fun κ h0 f a w _ ha hw => ?_
  refine ⟨_, _, h, _, .inl ?_, le.refl _, hw.new (.cells cs.toArray e (0, 0)), w.heap.size, rfl, rfl, rfl⟩
  have e1 : ps.map (fun (i, x) => (i, a.eval x)) = vs.toArray := map_arr (evp_eq ha hp)
  have hzl' : zs.length = sz := Nat.eq_of_beq_eq_true hzl
  have hlim' : ¬ len * sz > 2 ^ 24 := by have := Nat.le_of_ble_eq_true hlim; omega
  have hzc : z.cells = zs.toArray := by rw [vc_cells, vcO_eq hzv]
  have hF := fill_fillO hf
  simp only [execOp, ho, e1, Instr.buildSlice, Sem.run_bind, run_underlying w (slOf_under ht), Result.andThen_ok, run_sizeOf w hs, hlim', if_false]
  by_cases h0 : len * sz = 0
  · have hr' : (Array.range (len * sz)).map (fun j => (#[] : Array Value)[j % (#[] : Array Value).size]!) = rs.toArray := by
      rw [repO_eq hr]
      have : (List.replicate len zs).flatten = [] := List.eq_nil_of_length_eq_zero (by simp [hzl', h0])
      rw [this, h0]; simp
    simp only [h0, if_true, Sem.run_bind, Sem.run_pure, Result.andThen_ok]
    rw [h0] at hr'
    rw [hr', hF]
    simp [newRow]
  · have hr' : (Array.range (len * sz)).map (fun j => zs.toArray[j % zs.toArray.size]!) = rs.toArray := by
      rw [repO_eq hr]; subst hzl'; exact rep_arr zs len
    simp only [h0, if_false, Sem.run_bind, run_zeroValue w hz, Result.andThen_ok, Sem.run_pure, hzc]
    rw [hr', hF]
    simp [newRow]

/-- make of a slice. -/
theorem WL_make {t e : TypeId} {sz by_ : Nat} {x y : Operand} {m : Nat} {z : Value} {zs : List Value} {d : Tmp} (ho : o.op = .makeSlice t x y) (hx : ev E x = some (.int .i64 (m : Int))) (hy : ev E y = some (.int .i64 (m : Int))) (ht : slOf P t = some e) (hs : szOf P e = some sz)
    (hby : byOf P e = some by_) (hz : zeOf P e = some z) (hzv : vcO z = some zs) (hzl : Nat.beq zs.length sz = true) (hb : m * by_ ≤ 140737488355328) (hm : m ≤ 9223372036854775807) (hd : o.dst = some d) (hg : gd ops E o = some true) (hn : Nat.blt d n = true)
    (kk : ∀ b, WL P n ops l ⟨(d, .slice (some ⟨b, 0, none⟩) m m) :: E, D, blk b (List.replicate m zs).flatten e :: R, h⟩ K Q) : WL P n ops (o :: l) ⟨E, D, R, h⟩ K Q := by
  refine WL_any (A := fun v' R' h' => ∃ b, v' = .slice (some ⟨b, 0, none⟩) m m ∧ R' = blk b (List.replicate m zs).flatten e :: R ∧ h' = h) ?_ hd hg hn fun v' _ _ _ ⟨b, e0, e1, e2⟩ => by subst e0; subst e1; subst e2; exact kk b
  refine Exec_of_run fun κ h0 f a w _ ha hw => ?_
  refine ⟨_, _, h, _, .inl ?_, le.refl _, hw.new (.cells ((List.replicate m zs).flatten).toArray e (0, 0)), w.heap.size, rfl, rfl, rfl⟩
  have hzl' : zs.length = sz := Nat.eq_of_beq_eq_true hzl
  have hzc : z.cells = zs.toArray := by rw [vc_cells, vcO_eq hzv]
  have hwrap : IntKind.i64.wrap (m : Int) = (m : Int) := wrap_i64_in (by omega) (by omega)
  obtain ⟨inf, hinf, hib⟩ : ∃ inf, P.info? e = some inf ∧ inf.bytes = by_ := by
    unfold byOf at hby
    cases hi : P.info? e with
    | none => simp [hi] at hby
    | some i => simp [hi] at hby; exact ⟨i, rfl, hby⟩
  have hlarge : (decide ((m : Int) < 0) || decide ((inf.bytes : Int) * (m : Int) > 2 ^ 48)) = false := by
    have : ((inf.bytes : Int) * (m : Int)) = ((m * by_ : Nat) : Int) := by rw [hib]; push_cast; exact Int.mul_comm _ _
    rw [this]
    simp only [Bool.or_eq_false_iff, decide_eq_false_iff_not]
    constructor <;> omega
  have hcond : (decide ((m : Int) < 0) || decide ((m : Int) > (m : Int))) = false := by
    simp only [Bool.or_eq_false_iff, decide_eq_false_iff_not]; constructor <;> omega
  simp only [execOp, ho, ha.ev hx, ha.ev hy, Instr.makeSlice, Sem.run_bind, run_underlying w (slOf_under ht), Result.andThen_ok, asInt, asIntOf, Sem.run_pure, run_typeInfo w hinf, hwrap, hlarge, Bool.false_or, hcond, Bool.false_eq_true, if_false,
    run_askRoom, run_sizeOf w hs, Int.toNat_natCast]
  by_cases h0 : m * sz = 0
  · have hr' : (Array.range (m * sz)).map (fun j => (#[] : Array Value)[j % (#[] : Array Value).size]!) = ((List.replicate m zs).flatten).toArray := by
      have : (List.replicate m zs).flatten = [] := List.eq_nil_of_length_eq_zero (by simp [hzl', h0])
      rw [this, h0]; simp
    simp only [h0, if_true, Sem.run_bind, Sem.run_pure, Result.andThen_ok]
    rw [h0] at hr'
    rw [hr']
    simp [newRow]
  · have hr' : (Array.range (m * sz)).map (fun j => zs.toArray[j % zs.toArray.size]!) = ((List.replicate m zs).flatten).toArray := by subst hzl'; exact rep_arr zs m
    simp only [h0, if_false, Sem.run_bind, run_zeroValue w hz, Result.andThen_ok, Sem.run_pure, hzc]
    rw [hr']
    simp [newRow]

/-- A slice that is only read, cut. -/
theorem Sl.cut {α : Type} {enc : α → List Value} {sz : Nat} {v : Value} {L : List α} (hv : Sl enc sz h v L) {lo hi : Nat} (h1 : lo ≤ hi) (h2 : hi ≤ L.length) :
    ∃ v', Sl enc sz h v' ((L.take hi).drop lo) ∧ ∃ a a' cap, v = .slice a L.length cap ∧ L.length ≤ cap ∧ v' = .slice a' (hi - lo) (cap - lo) ∧ a' = (if cap = lo then a else a.map (·.add (lo * sz))) := by
  obtain ⟨q1, a, cap, e, hc, hn, hx⟩ := hv
  have hlen : ((L.take hi).drop lo).length = hi - lo := by simp; omega
  refine ⟨.slice (if cap = lo then a else a.map (·.add (lo * sz))) (hi - lo) (cap - lo), ⟨fun x hx' => q1 x (List.mem_of_mem_take (List.mem_of_mem_drop hx')), _, _, by rw [hlen], by rw [hlen]; omega, ?_, ?_⟩, a, _, cap, e, hc, rfl, rfl⟩
  · intro ha
    have : a = none := by
      split at ha
      · exact ha
      · simpa using ha
    obtain ⟨hL, hcap⟩ := hn this
    subst hL
    exact ⟨by simp, by omega⟩
  · rcases hx with hx | ⟨b, off, c, t, fr, ea, hb, hj⟩
    · left; subst hx; simp
    · by_cases hz : lo = hi
      · left; subst hz; simp
      · right
        have hne : ¬ cap = lo := by omega
        refine ⟨b, off + lo * sz, c, t, fr, by rw [if_neg hne, ea]; simp [add_spot], hb, ?_⟩
        intro i hi' j hjs
        rw [hlen] at hi'
        have hlt : lo + i < L.length := by omega
        have := hj (lo + i) hlt j hjs
        rw [show off + lo * sz + i * sz + j = off + (lo + i) * sz + j from by rw [Nat.add_mul]; omega, this]
        simp [List.getElem_drop, List.getElem_take]
end
end Go.Par

/- Engine, part 13: equality of structs and strings; slice expressions. It speaks of no program. -/
namespace Go.Par
open Go PH

/-- Whether two values of a plain type are the same: by the cells. -/
def eqFs (rec : TypeId → List Value → List Value → Option Bool) (szf : TypeId → Option Nat) (isf : TypeId → Option Bool) : List Field → List Value → List Value → Option Bool
  | [], _, _ => some true
  | f :: r, xs, ys => match f.name == "_" with
    | true => eqFs rec szf isf r xs ys
    | false => match szf f.type with
      | some s => (match (match isf f.type with | some false => Nat.beq s 1 | _ => true) with
        | true => (match rec f.type ((xs.drop f.offset).take s) ((ys.drop f.offset).take s), eqFs rec szf isf r xs ys with
          | some a, some b => some (a && b)
          | _, _ => none)
        | false => none)
      | none => none
def eqT (P : Program) (held : List Nat) : Nat → TypeId → List Value → List Value → Option Bool
  | 0, _, _, _ => none
  | d + 1, t, xs, ys => match P.underlying t with
    | some .bool => (match xs, ys with | [.bool a], [.bool b] => some (a == b) | _, _ => none)
    | some (.int _) => (match xs, ys with | [.int k a], [.int k' b] => (match decide (k = k') with | true => some (a == b) | false => none) | _, _ => none)
    | some .string => (match xs, ys with | [.string a], [.string b] => some (a == b) | _, _ => none)
    | some (.struct fs) => (match held.any (fun u => Nat.beq u t) with | true => eqFs (eqT P held d) (szOf P) (isA P) fs.toList xs ys | false => none)
    | _ => none

/-- A value of a type, of its cells. -/
def mkV (P : Program) (t : TypeId) (cs : List Value) : Value :=
  match isA P t, cs with
  | some true, cs => .agg cs.toArray
  | _, [v] => v
  | _, cs => .agg cs.toArray

theorem run_part {P : Program} (w : World) {t : TypeId} {xs : List Value} {off s : Nat} (hs : szOf P t = some s) (hv : ∃ b, isA P t = some b ∧ (b = false → s = 1 ∧ off < xs.length)) :
    (part t xs.toArray off).run P w = .ok (mkV P t ((xs.drop off).take s)) w := by
  obtain ⟨b, hb, h1⟩ := hv
  cases b with
  | true =>
    simp only [part, Sem.run_bind, run_isAgg w hb, Result.andThen_ok, if_true, run_sizeOf w hs, Sem.run_pure, mkV, hb]
    congr 2
    apply Array.ext'
    simp [List.extract_eq_take_drop]
  | false =>
    obtain ⟨h2, h3⟩ := h1 rfl
    subst h2
    have e1 : xs[off]? = some xs[off] := List.getElem?_eq_getElem h3
    have e2 : (xs.drop off).take 1 = [xs[off]] := by
      rw [List.drop_eq_getElem_cons h3, List.take_succ_cons, List.take_zero]
    simp [part, run_isAgg w hb, mkV, hb, e2, e1]

theorem eqT_isA {P : Program} {held : List Nat} : ∀ {d : Nat} {t : TypeId} {xs ys : List Value} {b : Bool}, eqT P held d t xs ys = some b → ∃ c, isA P t = some c ∧ (c = false → (∃ x, xs = [x]) ∧ (∃ y, ys = [y]))
  | 0, _, _, _, _, h => by simp [eqT] at h
  | d + 1, t, xs, ys, b, h => by
    simp only [eqT] at h
    split at h
    · rename_i hu
      refine ⟨false, by simp [isA, hu], fun _ => ?_⟩
      split at h
      · exact ⟨⟨_, rfl⟩, ⟨_, rfl⟩⟩
      · cases h
    · rename_i hu
      refine ⟨false, by simp [isA, hu], fun _ => ?_⟩
      split at h
      · exact ⟨⟨_, rfl⟩, ⟨_, rfl⟩⟩
      · cases h
    · rename_i hu
      refine ⟨false, by simp [isA, hu], fun _ => ?_⟩
      split at h
      · exact ⟨⟨_, rfl⟩, ⟨_, rfl⟩⟩
      · cases h
    · rename_i fs hu
      exact ⟨true, by simp [isA, hu], fun h => by cases h⟩
    · cases h

theorem run_eqFs {P : Program} (w : World) {D : Nat} {rec : TypeId → List Value → List Value → Option Bool} (hrec : ∀ t xs ys b, rec t xs ys = some b → (∃ c, isA P t = some c ∧ (c = false → (∃ x, xs = [x]) ∧ (∃ y, ys = [y]))) ∧ (Op.equalIn D t (mkV P t xs) (mkV P t ys)).run P w = .ok b w) {xs ys : List Value} :
    ∀ {fs : List Field} {b : Bool}, eqFs rec (szOf P) (isA P) fs xs ys = some b → (Op.eqFields D xs.toArray ys.toArray fs).run P w = .ok b w
  | [], b, h => by simp [eqFs] at h; subst h; simp [Op.eqFields]
  | f :: r, b, h => by
    simp only [eqFs] at h
    unfold Op.eqFields
    split at h
    · rename_i hn
      have hn' : f.name = "_" := by simpa using hn
      rw [if_neg (by simp [hn'])]
      exact run_eqFs w hrec h
    · rename_i hn
      have hn' : f.name ≠ "_" := by simpa using hn
      rw [if_pos hn']
      split at h
      · rename_i s hs
        split at h
        case h_2 => cases h
        rename_i hs1'
        split at h
        · rename_i a c ha hc
          simp at h; subst h
          obtain ⟨⟨q, hq, hq1⟩, hrun⟩ := hrec _ _ _ _ ha
          have len1 : q = false → s = 1 ∧ f.offset < xs.length ∧ f.offset < ys.length := by
            intro hqf
            obtain ⟨⟨x, hx⟩, ⟨y, hy⟩⟩ := hq1 hqf
            have l1 := congrArg List.length hx
            have l2 := congrArg List.length hy
            simp only [List.length_take, List.length_drop, List.length_cons, List.length_nil] at l1 l2
            have hs1 : s = 1 := by
              have hu : isA P f.type = some false := by rw [hq, hqf]
              rw [hu] at hs1'
              exact Nat.eq_of_beq_eq_true hs1'
            omega
          have p1 := run_part (P := P) w (xs := xs) (off := f.offset) hs ⟨q, hq, fun hqf => ⟨(len1 hqf).1, (len1 hqf).2.1⟩⟩
          have p2 := run_part (P := P) w (xs := ys) (off := f.offset) hs ⟨q, hq, fun hqf => ⟨(len1 hqf).1, (len1 hqf).2.2⟩⟩
          simp only [Sem.run_bind, p1, p2, Result.andThen_ok, hrun]
          cases a with
          | true => simp only [Bool.not_true, Bool.false_eq_true, if_false, Bool.true_and]; exact run_eqFs w hrec hc
          | false => simp
        · cases h
      · cases h
theorem run_eqT {P : Program} {held : List Nat} (hh : held.all (fun t => !P.stoodInHeld t) = true) (w : World) : ∀ {d : Nat} {t : TypeId} {xs ys : List Value} {b : Bool} (D : Nat), d ≤ D → eqT P held d t xs ys = some b → (Op.equalIn D t (mkV P t xs) (mkV P t ys)).run P w = .ok b w
  | 0, _, _, _, _, _, _, h => by simp [eqT] at h
  | d + 1, t, xs, ys, b, 0, hD, h => by omega
  | d + 1, t, xs, ys, b, D + 1, hD, h => by
    simp only [eqT] at h
    split at h
    · rename_i hu
      split at h
      · simp at h; subst h
        simp [mkV, isA, hu, Op.equalIn, run_underlying w hu]
      · cases h
    · rename_i hu
      split at h
      · rename_i k a k' b'
        split at h
        · rename_i hk
          have hk := of_decide_eq_true hk
          subst hk
          simp at h; subst h
          simp [mkV, isA, hu, Op.equalIn, run_underlying w hu]
        · cases h
      · cases h
    · rename_i hu
      split at h
      · simp at h; subst h
        simp [mkV, isA, hu, Op.equalIn, run_underlying w hu]
      · cases h
    · rename_i fs hu
      split at h
      · rename_i hst'
        have hst : P.stoodInHeld t = false := by
          simp only [List.any_eq_true] at hst'
          obtain ⟨u, hu1, hu2⟩ := hst'
          have := List.all_eq_true.1 hh u hu1
          rw [Nat.eq_of_beq_eq_true hu2] at this
          simpa using this
        have e1 : mkV P t xs = .agg xs.toArray := by simp [mkV, isA, hu]
        have e2 : mkV P t ys = .agg ys.toArray := by simp [mkV, isA, hu]
        have e3 : P.fieldsOf t = fs := by simp [Program.fieldsOf, hu]
        rw [e1, e2, run_equalIn_struct w D t _ _ (by rw [e3]; exact hu) hst, e3]
        exact run_eqFs w (fun t' xs' ys' b' hx => ⟨eqT_isA hx, run_eqT hh w D (by omega) hx⟩) h
      · cases h
    · cases h

section
variable {P : Program} {n : Nat} {ops : Array Oper} {l : List Oper} {o : Oper} {E : Env} {D : List Deferred} {R : List SL} {h : PH} {K : S → Prop} {Q : Exit → S → Prop}
theorem X_eqA {t u : TypeId} {x y : Operand} {xs ys : List Value} {b : Bool} (d : Nat) {held : List Nat} (hh : held.all (fun t => !P.stoodInHeld t) = true) (hh2 : held.all (fun t => !P.eqGuardType P.depth t) = true) (ho : o.op = .binOp .eql t x y u) (ht : isA P t = some true) (hgg : held.any (fun u => Nat.beq u t) = true) (hx : ev E x = some (.agg xs.toArray)) (hy : ev E y = some (.agg ys.toArray)) (hd : Nat.ble d 10000 = true) (he : eqT P held d t xs ys = some b) :
    Exec P n o ⟨E, D, R, h⟩ (Is (.bool b) R h) :=
  Exec_is fun a w ha => by
    have hg : P.eqGuardType P.depth t = false := by
      simp only [List.any_eq_true] at hgg
      obtain ⟨u, hu1, hu2⟩ := hgg
      have := List.all_eq_true.1 hh2 u hu1
      rw [Nat.eq_of_beq_eq_true hu2] at this
      simpa using this
    have := run_eqT hh w 10000 (Nat.le_of_ble_eq_true hd) he
    simp only [mkV, ht] at this
    simp [execOp, ho, ha.ev hx, ha.ev hy, eqGuard, hg, binOp, Op.equal, Op.maxDepth, this]
theorem X_neA {t u : TypeId} {x y : Operand} {xs ys : List Value} {b : Bool} (d : Nat) {held : List Nat} (hh : held.all (fun t => !P.stoodInHeld t) = true) (hh2 : held.all (fun t => !P.eqGuardType P.depth t) = true) (ho : o.op = .binOp .neq t x y u) (ht : isA P t = some true) (hgg : held.any (fun u => Nat.beq u t) = true) (hx : ev E x = some (.agg xs.toArray)) (hy : ev E y = some (.agg ys.toArray)) (hd : Nat.ble d 10000 = true) (he : eqT P held d t xs ys = some b) :
    Exec P n o ⟨E, D, R, h⟩ (Is (.bool (!b)) R h) :=
  Exec_is fun a w ha => by
    have hg : P.eqGuardType P.depth t = false := by
      simp only [List.any_eq_true] at hgg
      obtain ⟨u, hu1, hu2⟩ := hgg
      have := List.all_eq_true.1 hh2 u hu1
      rw [Nat.eq_of_beq_eq_true hu2] at this
      simpa using this
    have := run_eqT hh w 10000 (Nat.le_of_ble_eq_true hd) he
    simp only [mkV, ht] at this
    simp [execOp, ho, ha.ev hx, ha.ev hy, eqGuard, hg, binOp, Op.equal, Op.maxDepth, this]
theorem X_eqS {t u : TypeId} {x y : Operand} {a b : ByteArray} (ho : o.op = .binOp .eql t x y u) (hx : ev E x = some (.string a)) (hy : ev E y = some (.string b)) : Exec P n o ⟨E, D, R, h⟩ (Is (.bool (a == b)) R h) :=
  Exec_is fun ac w ha => by
    have : (a == b) = (a.toList == b.toList) := beq_toListBytes a b
    simp [execOp, ho, ha.ev hx, ha.ev hy, eqGuard, binOp, Op.stringOp, this]
theorem X_neS {t u : TypeId} {x y : Operand} {a b : ByteArray} (ho : o.op = .binOp .neq t x y u) (hx : ev E x = some (.string a)) (hy : ev E y = some (.string b)) : Exec P n o ⟨E, D, R, h⟩ (Is (.bool (!(a == b))) R h) :=
  Exec_is fun ac w ha => by
    have : (a == b) = (a.toList == b.toList) := beq_toListBytes a b
    simp [execOp, ho, ha.ev hx, ha.ev hy, eqGuard, binOp, Op.stringOp, this]
end
end Go.Par

/- Engine, part 14: results that lie in memory; contracts turned. It speaks of no program. -/
namespace Go.Par
open Go PH

/-- What a result reads as. -/
inductive RVal (P : Program) (E : Env) (R : List SL) : ResultVar → Value → Prop where
  | tmp {t : Tmp} {v : Value} : lk E t = some v → RVal P E R (.tmp t) v
  | cell1 {x : Tmp} {t t0 : TypeId} {b off i : Nat} {c : List Value} {v : Value} : lk E x = some (.pointer (some ⟨b, off, none⟩)) → R[i]? = some (blk b c t0) → isA P t = some false → c[off]? = some v → RVal P E R (.cell x t) v
  | cellA {x : Tmp} {t t0 : TypeId} {b off i sz : Nat} {c vs : List Value} : lk E x = some (.pointer (some ⟨b, off, none⟩)) → R[i]? = some (blk b c t0) → isA P t = some true → szOf P t = some sz → rd c off sz = some vs → RVal P E R (.cell x t) (.agg vs.toArray)
inductive RVals (P : Program) (E : Env) (R : List SL) : List ResultVar → List Value → Prop where
  | nil : RVals P E R [] []
  | cons {r : ResultVar} {v : Value} {rs : List ResultVar} {vs : List Value} : RVal P E R r v → RVals P E R rs vs → RVals P E R (r :: rs) (v :: vs)

section
variable {P : Program} {n : Nat} {fn : Func} {E : Env} {D : List Deferred} {R R1 : List SL} {h : PH} {K : Post} {A : Value → List SL → PH → Prop}
theorem getD_of {T : Array Value} {x : Nat} {v : Value} (e : T[x]? = some v) : T.getD x undef = v := by rw [Array.getD_eq_getD_getElem?, e]; rfl
theorem RVals_run {κ : World} {h0 f : PH} {a : Act} {w : World} (ha : EnvOk n E D a) (hw : St κ h0 f R h w) : ∀ {rs : List ResultVar} {vs : List Value}, RVals P E R rs vs → (rs.mapM (resF a.tmps)).run P w = Result.ok vs w
  | _, _, .nil => by simp
  | _, _, .cons hr hrs => by
    have ih := RVals_run ha hw hrs
    have h1 : ∀ {r : ResultVar} {v : Value}, RVal P E R r v → (resF a.tmps r).run P w = .ok v w := by
      intro r v hr
      cases hr with
      | tmp ht =>
        have e := ha.2.2 _ _ ht
        simp [resF, Array.getD_eq_getD_getElem?, e]
      | cell1 ht hi hA hc =>
        have e := ha.2.2 _ _ ht
        have e' := getD_of e
        simp only [resF, e', asAddr, Sem.run_bind, Sem.run_pure, Result.andThen_ok, run_loadVar_one hA (hw.obj_at hi) hc]
      | cellA ht hi hA hs hc =>
        have e := ha.2.2 _ _ ht
        have e' := getD_of e
        simp only [resF, e', asAddr, Sem.run_bind, Sem.run_pure, Result.andThen_ok, run_loadVar_agg hA hs (hw.obj_at hi) hc]
    simp only [List.mapM_cons, Sem.run_bind, Sem.run_pure, Result.andThen_ok, h1 hr, ih]
theorem RetOk_vals {vs : List Value} {v : Value} (h1 : RVals P E R fn.results.toList vs) (h2 : resO vs = some v) (u : UpdE R h (A v)) : RetOk P n fn ⟨E, D, R, h⟩ (Ret A) := by
  intro κ h0 f a w hf ha hw
  have h3 := resO_eq h2
  subst h3
  obtain ⟨R', h', hle, hA, hs⟩ := u κ h0 f w hf hw
  refine ⟨resV vs, R', h', ?_, hs, hA⟩
  have := RVals_run ha hw h1
  rw [results_eq, Sem.run_bind, Array.mapM_eq_mapM_toList, Sem.run_map, this]
  simp only [Result.andThen_ok]
  match vs with
  | [] => simp [resV]
  | [v] => simp [resV]
  | u :: v :: r => simp [resV]
/-- The end of a function whose results lie in slots or in variables; what is owned may be turned then. -/
theorem Body_vals {vs : List Value} {v : Value} (h1 : RVals P E R fn.results.toList vs) (h2 : resO vs = some v) (u : UpdE R h (A v)) : Body P n fn (Ret A) .ret ⟨E, [], R, h⟩ := Body_ret rfl (RetOk_vals h1 h2 u)
theorem Body_vals0 {vs : List Value} {v : Value} (h1 : RVals P E R fn.results.toList vs) (h2 : resO vs = some v) (u : UpdE R h (A v)) : Body P n fn (Ret A) .normal ⟨E, [], R, h⟩ := Body_normal rfl (RetOk_vals h1 h2 u)
end

section
variable {R R1 : List SL} {h : PH} {A B : List SL → PH → Prop}
theorem UpdE.sub (hR : SubR R R1) (hA : A R1 h) : UpdE R h A := fun _ _ _ _ _ s => ⟨R1, h, le.refl _, hA, s.sub hR⟩
theorem UpdE.here (hA : A R h) : UpdE R h A := fun _ _ _ _ _ s => ⟨R, h, le.refl _, hA, s⟩
theorem UpdE.of (u : Upd R h R1 h) (hA : A R1 h) : UpdE R h A := fun κ h0 f w hf s => ⟨R1, h, le.refl _, hA, u κ h0 f w hf s⟩
theorem UpdE.then (u : UpdE R h A) (k : ∀ R' h', le h h' → A R' h' → UpdE R' h' B) : UpdE R h B := fun κ h0 f w hf s => by
  obtain ⟨R', h', hle, hA, hs⟩ := u κ h0 f w hf s
  obtain ⟨R'', h'', hle', hB, hs'⟩ := k R' h' hle hA κ h0 f w hf hs
  exact ⟨R'', h'', hle.trans hle', hB, hs'⟩
theorem UpdE.mono (u : UpdE R h A) (k : ∀ R' h', le h h' → A R' h' → B R' h') : UpdE R h B := fun κ h0 f w hf s => by
  obtain ⟨R', h', hle, hA, hs⟩ := u κ h0 f w hf s
  exact ⟨R', h', hle, k _ _ hle hA, hs⟩
end

section
variable {P : Program} {f : FuncId} {args : List Value} {R : List SL} {h : PH} {A B : Value → List SL → PH → Prop}
/-- What a call leaves may be turned. -/
theorem Does.upd (H : Does P f args R h (Ret A)) (k : ∀ v R' h', le h h' → A v R' h' → UpdE R' h' (B v)) : Does P f args R h (Ret B) := fun f' w hf hs =>
  (H f' w hf hs).mono fun e w' ⟨he, R', h', hle, hs', hA⟩ => by
    cases e with
    | returned v =>
      have hf2 : le h f' := hf
      obtain ⟨R'', h'', hle', hB, hs''⟩ := k v R' h' hle hA w h f' w' hf2 hs'
      exact ⟨by simp, R'', h'', hle.trans hle', hs'', hB⟩
    | panicked ch => exact hA.elim
    | outgrown => exact hA.elim
theorem Does.wkn (H : Does P f args R h (Ret A)) (k : ∀ v R' h', le h h' → A v R' h' → B v R' h') : Does P f args R h (Ret B) := H.mono fun e R' h' hle hA => by
  cases e with
  | returned v => exact k v R' h' hle hA
  | panicked ch => exact hA.elim
  | outgrown => exact hA.elim
end

/-- A block of one's own as a row. -/
theorem Upd.blkrow {R : List SL} {h : PH} {b cap m sz : Nat} {c xs : List Value} {e : TypeId} (i : Nat) (hi : R[i]? = some (blk b c e)) (hm : m ≤ cap) (hc : c.length = cap * sz) (hx : c.take (m * sz) = xs) :
    Upd R h (R.set i (Par.row (.slice (some ⟨b, 0, Option.none⟩) m cap) e sz m xs)) h := fun κ h0 f w _ s => by
  refine s.setObj hi (fun g hg => ⟨?_, .inr ⟨b, cap, c, rfl, hm, hc, hx, hg⟩⟩)
  rw [← hx, List.length_take, hc, Nat.min_eq_left (Nat.mul_le_mul_right _ hm)]
/-- A row that is not nil, as a block. -/
theorem UpdE.rowblk {R : List SL} {h : PH} {m sz : Nat} {v : Value} {xs : List Value} {e : TypeId} (i : Nat) (hi : R[i]? = some (Par.row v e sz m xs)) (hm : 0 < m) :
    UpdE R h fun R' h' => h' = h ∧ ∃ b cap c, v = .slice (some ⟨b, 0, none⟩) m cap ∧ m ≤ cap ∧ c.length = cap * sz ∧ c.take (m * sz) = xs ∧ xs.length = m * sz ∧ R' = R.set i (blk b c e) := fun κ h0 f w _ s => by
  obtain ⟨a, g, k, eh, hr, hgf, hkf, hgk, hg, hk, hw⟩ := s
  obtain ⟨x, y, rfl, hd, ⟨hxl, hrow⟩, hset, her⟩ := stars_get hi hr
  rcases hrow with ⟨_, h0', _⟩ | ⟨b, cap, c, rfl, hm', hc, ht, hb⟩
  · omega
  · exact ⟨_, h, le.refl _, ⟨rfl, b, cap, c, rfl, hm', hc, ht, hxl, rfl⟩, a, _, k, eh, hset (blk b c e) _ hb hd, hgf, hkf, hgk, hg, hk, hw⟩
end Go.Par

/- Engine, part 15: loops of a known number of rounds; sums and the like with their value given. It speaks of no program. -/
namespace Go.Par
open Go PH

theorem wrapL {x c : Int} (h : x = c) (hb : -9223372036854775808 ≤ c ∧ c ≤ 9223372036854775807) : IntKind.i64.wrap x = c := by subst h; exact wrap_i64_in hb.1 hb.2
theorem u8w_and7 {x : Int} (_ : 0 ≤ x) : bits .and .u8 (IntKind.u8.wrap x) 7 = x % 8 := by
  rw [IntKind.wrap_u8, u8_and7 _ (by omega) (by omega)]; omega
/-- So many rounds, and no more. -/
def WR (P : Program) (n : Nat) (c : Code) (Q : Exit → S → Prop) : Nat → S → Prop
  | 0, _ => False
  | k + 1, s => W P n c s (Then (fun s' => WR P n c Q k s') Q)
theorem W_rounds {P : Program} {n : Nat} {c : Code} {Q : Exit → S → Prop} {s : S} (k : Nat) (H : WR P n c Q k s) : W P n (.loop c) s Q := fun κ h0 f a w hf ha hw => by
  refine wpIn_loop_rounds k ?_
  induction k generalizing s a w with
  | zero => exact H.elim
  | succ k ih =>
    rw [roundsIn_succ]
    refine wpIn_mono (H κ h0 f a w hf ha hw) ?_
    rintro e a' w' ⟨he, s', h1, h2, h3⟩
    cases e with
    | normal =>
      have := ih h3 a' w' h1 h2.1
      simp only [fen, h2.2] at this
      exact this
    | exit i => exact ⟨by simp, s', h1, h2, h3⟩
    | goto i => exact ⟨by simp, s', h1, h2, h3⟩
    | ret => exact ⟨by simp, s', h1, h2, h3⟩
    | panic c => exact ⟨by simp, s', h1, h2, h3⟩
    | outgrown => exact absurd rfl he
theorem WR_succ {P : Program} {n : Nat} {c : Code} {Q : Exit → S → Prop} {s : S} {k : Nat} (H : W P n c s (Then (fun s' => WR P n c Q k s') Q)) : WR P n c Q (k + 1) s := H

section
variable {P : Program} {n : Nat} {o : Oper} {E : Env} {D : List Deferred} {R : List SL} {h : PH} {t u s d : TypeId} {x y : Operand} {k k2 : IntKind} {a b c : Int}
theorem X_addW (ho : o.op = .binOp .add t x y u) (hx : ev E x = some (.int k a)) (hy : ev E y = some (.int k b)) (hw : k.wrap (a + b) = c) : Exec P n o ⟨E, D, R, h⟩ (Is (.int k c) R h) := by subst hw; exact X_add ho hx hy
theorem X_subW (ho : o.op = .binOp .sub t x y u) (hx : ev E x = some (.int k a)) (hy : ev E y = some (.int k b)) (hw : k.wrap (a - b) = c) : Exec P n o ⟨E, D, R, h⟩ (Is (.int k c) R h) := by subst hw; exact X_sub ho hx hy
theorem X_mulW (ho : o.op = .binOp .mul t x y u) (hx : ev E x = some (.int k a)) (hy : ev E y = some (.int k b)) (hw : k.wrap (a * b) = c) : Exec P n o ⟨E, D, R, h⟩ (Is (.int k c) R h) := by subst hw; exact X_mul ho hx hy
theorem X_andW (ho : o.op = .binOp .and t x y u) (hx : ev E x = some (.int k a)) (hy : ev E y = some (.int k b)) (hw : bits .and k a b = c) : Exec P n o ⟨E, D, R, h⟩ (Is (.int k c) R h) := by subst hw; exact X_and ho hx hy
theorem X_convW (ho : o.op = .convert s d x) (hs : inOf P s = some k) (hd : inOf P d = some k2) (hx : ev E x = some (.int k a)) (hw : k2.wrap a = c) : Exec P n o ⟨E, D, R, h⟩ (Is (.int k2 c) R h) := by subst hw; exact X_conv ho hs hd hx
theorem X_quoW (ho : o.op = .binOp .quo t x y u) (hx : ev E x = some (.int k a)) (hy : ev E y = some (.int k b)) (h0 : 0 ≤ a) (h1 : 0 < b) (hw : k.wrap (a / b) = c) : Exec P n o ⟨E, D, R, h⟩ (Is (.int k c) R h) := by subst hw; exact X_quo ho hx hy h0 h1
theorem X_shrW (ho : o.op = .binOp .shr t x y u) (hx : ev E x = some (.int k a)) (hy : ev E y = some (.int k2 b)) (h0 : 0 ≤ b) (h1 : b ≤ k.bits) (hw : a / 2 ^ b.toNat = c) : Exec P n o ⟨E, D, R, h⟩ (Is (.int k c) R h) := by subst hw; exact X_shr ho hx hy h0 h1
theorem X_shlW (ho : o.op = .binOp .shl t x y u) (hx : ev E x = some (.int k a)) (hy : ev E y = some (.int k2 b)) (h0 : 0 ≤ b) (h1 : b ≤ k.bits) (hw : k.wrap (a * 2 ^ b.toNat) = c) : Exec P n o ⟨E, D, R, h⟩ (Is (.int k c) R h) := by subst hw; exact X_shl ho hx hy h0 h1
theorem X_eqB_t {a b : Bool} (ho : o.op = .binOp .eql t x y u) (ht : P.underlying t = some .bool) (hx : ev E x = some (.bool a)) (hy : ev E y = some (.bool b)) (hc : a = b) : Exec P n o ⟨E, D, R, h⟩ (Is (.bool true) R h) := by
  have := X_eqB (P := P) (n := n) (D := D) (R := R) (h := h) ho ht hx hy; subst hc; simpa using this
theorem X_eqB_f {a b : Bool} (ho : o.op = .binOp .eql t x y u) (ht : P.underlying t = some .bool) (hx : ev E x = some (.bool a)) (hy : ev E y = some (.bool b)) (hc : ¬ a = b) : Exec P n o ⟨E, D, R, h⟩ (Is (.bool false) R h) := by
  have := X_eqB (P := P) (n := n) (D := D) (R := R) (h := h) ho ht hx hy
  have e : (a == b) = false := by simpa using hc
  rw [e] at this; exact this
end
end Go.Par

/- Engine, part 16: the shape of what is owned. It speaks of no program. -/
namespace Go.Par
open Go PH

theorem St.shape {κ : World} {h0 f : PH} {R : List SL} {h : PH} {w : World} {i m sz : Nat} {v : Value} {e : TypeId} {xs : List Value} (s : St κ h0 f R h w) (hi : R[i]? = some (Par.row v e sz m xs)) :
    xs.length = m * sz ∧ ∃ a cap, v = .slice a m cap ∧ m ≤ cap ∧ (a = none → m = 0 ∧ cap = 0) := by
  obtain ⟨_, g, k, eh, hr, _⟩ := s
  obtain ⟨x, y, rfl, hd, ⟨hxl, hrow⟩, hset, her⟩ := stars_get hi hr
  refine ⟨hxl, ?_⟩
  rcases hrow with ⟨rfl, rfl, _⟩ | ⟨b, cap, c, rfl, hm', hc, ht, hb⟩
  · exact ⟨none, 0, rfl, Nat.le_refl _, fun _ => ⟨rfl, rfl⟩⟩
  · exact ⟨_, cap, rfl, hm', fun h => by cases h⟩
theorem UpdE.shape {R : List SL} {h : PH} {m sz : Nat} {v : Value} {xs : List Value} {e : TypeId} (i : Nat) (hi : R[i]? = some (Par.row v e sz m xs)) :
    UpdE R h fun R' h' => R' = R ∧ h' = h ∧ ∃ a cap, v = .slice a m cap := fun κ h0 f w hf s => by
  obtain ⟨_, a, cap, e, _⟩ := s.shape hi
  exact ⟨R, h, le.refl _, ⟨rfl, rfl, a, cap, e⟩, s⟩
theorem UpdE.shapeL {α : Type} {enc : α → List Value} {R : List SL} {h : PH} {sz : Nat} {v : Value} {L : List α} {e : TypeId} (i : Nat) (hi : R[i]? = some (rowL enc v e sz L)) :
    UpdE R h fun R' h' => R' = R ∧ h' = h ∧ ∃ a cap, v = .slice a L.length cap := UpdE.shape i hi
theorem UpdE.shapePos {α : Type} {enc : α → List Value} {R : List SL} {h : PH} {sz m cap : Nat} {a : Option Addr} {L : List α} {e : TypeId} (i : Nat) (hi : R[i]? = some (rowL enc (.slice a m cap) e sz L)) (hp : 0 < m) :
    UpdE R h fun R' h' => R' = R ∧ h' = h ∧ ∃ b, a = some ⟨b, 0, none⟩ := fun κ h0 f w hf s => by
  refine ⟨R, h, le.refl _, ⟨rfl, rfl, ?_⟩, s⟩
  obtain ⟨_, g, k, eh, hr, _⟩ := s
  obtain ⟨x, y, rfl, hd, ⟨hxl, hrow⟩, hset, her⟩ := stars_get hi hr
  rcases hrow with ⟨h1, _, _⟩ | ⟨b, cap, c, h1, _⟩
  · cases h1; omega
  · cases h1; exact ⟨b, rfl⟩
theorem perm_front {α : Type _} : ∀ {R : List α} (i : Nat) {r : α}, R[i]? = some r → R.Perm (r :: R.eraseIdx i)
  | [], _, _, h => by simp at h
  | x :: R, 0, r, h => by simp at h; subst h; exact .refl _
  | x :: R, i + 1, r, h => by simp at h; exact ((perm_front i h).cons x).trans (.swap r x _)
end Go.Par

/- Engine, part 17: elements of owned slices, read and written in their places. It speaks of no program. -/
namespace Go.Par
open Go PH

/-- How what is read is told from its cells. -/
class Dec {α : Type} (enc : α → List Value) (sz : outParam Nat) where
  len : ∀ x, (enc x).length = sz
  dec : List Value → Option α
  ok : ∀ c x, dec c = some x → enc x = c

@[irreducible] def spot (j sz o : Nat) : Nat := j * sz + o
theorem spot_eq (j sz o : Nat) : spot j sz o = j * sz + o := by unfold spot; rfl

theorem flat_get {α : Type} {enc : α → List Value} {sz : Nat} : ∀ (M : List α) (pre : List Value), (∀ x ∈ M, (enc x).length = sz) → ∀ j (hj : j < M.length) q, q < sz → (pre ++ M.flatMap enc)[pre.length + j * sz + q]? = (enc M[j])[q]? := by
  intro M
  induction M with
  | nil => intro _ _ j hj; simp at hj
  | cons z M ih =>
    intro pre hM j hj q hq
    have hz := hM z (by simp)
    cases j with
    | zero =>
      simp only [List.flatMap_cons, Nat.zero_mul, Nat.add_zero, List.getElem_cons_zero]
      rw [List.getElem?_append_right (by omega), Nat.add_sub_cancel_left, List.getElem?_append_left (by omega)]
    | succ j =>
      have := ih (pre ++ enc z) (fun x hx => hM x (by simp [hx])) j (by simpa using hj) q hq
      simp only [List.flatMap_cons, List.getElem_cons_succ]
      rw [← this, List.append_assoc]
      congr 1
      simp only [List.length_append, hz, Nat.add_mul]; omega
theorem flat_get' {α : Type} {enc : α → List Value} {sz : Nat} (M : List α) (hM : ∀ x ∈ M, (enc x).length = sz) (j : Nat) (hj : j < M.length) (q : Nat) (hq : q < sz) : (M.flatMap enc)[j * sz + q]? = (enc M[j])[q]? := by
  have := flat_get M [] hM j hj q hq
  simpa using this
theorem flat_len {α : Type} {enc : α → List Value} {sz : Nat} : ∀ (M : List α), (∀ x ∈ M, (enc x).length = sz) → (M.flatMap enc).length = M.length * sz
  | [], _ => by simp
  | x :: M, hM => by
    simp only [List.flatMap_cons, List.length_append, List.length_cons, hM x (by simp), flat_len M (fun y hy => hM y (by simp [hy])), Nat.add_mul]; omega

section
variable {κ : World} {h0 f : PH} {R : List SL} {h : PH} {w : World}
theorem St.rowblk {i b m cap sz : Nat} {e : TypeId} {xs : List Value} (s : St κ h0 f R h w) (hi : R[i]? = some (Par.row (.slice (some ⟨b, 0, none⟩) m cap) e sz m xs)) :
    ∃ c, m ≤ cap ∧ c.length = cap * sz ∧ c.take (m * sz) = xs ∧ xs.length = m * sz ∧ St κ h0 f (R.set i (blk b c e)) h w := by
  obtain ⟨a, g, k, eh, hr, hgf, hkf, hgk, hg, hk, hw⟩ := s
  obtain ⟨x, y, rfl, hd, ⟨hxl, hrow⟩, hset, her⟩ := stars_get hi hr
  rcases hrow with ⟨h1, _, _⟩ | ⟨b', cap', c, h1, hm, hc, ht, hb⟩
  · cases h1
  · cases h1
    exact ⟨c, hm, hc, ht, hxl, a, _, k, eh, hset (blk b c e) _ hb hd, hgf, hkf, hgk, hg, hk, hw⟩
theorem idx_lt {α : Type _} {R : List α} {i : Nat} {r : α} (hi : R[i]? = some r) : i < R.length := by
  rcases Nat.lt_or_ge i R.length with h | h
  · exact h
  · simp [List.getElem?_eq_none h] at hi
theorem St.rowcell {α : Type} {enc : α → List Value} {sz : Nat} [Dec enc sz] {i b m cap : Nat} {e : TypeId} {L : List α} (s : St κ h0 f R h w) (hi : R[i]? = some (rowL enc (.slice (some ⟨b, 0, none⟩) m cap) e sz L)) (hm : m = L.length) :
    ∃ c, w.heap[b]? = some (.cells (List.toArray c) e (0, 0)) ∧ L.length ≤ cap ∧ c.length = cap * sz ∧ c.take (L.length * sz) = L.flatMap enc ∧ ∀ j (hj : j < L.length) q, q < sz → c[spot j sz q]? = (enc L[j])[q]? := by
  subst hm
  obtain ⟨c, h1, h2, h3, h4, h5⟩ := s.rowblk hi
  have hiL := idx_lt hi
  refine ⟨c, h5.obj_at (i := i) (by simp [hiL]), h1, h2, h3, fun j hj q hq => ?_⟩
  rw [← flat_get' L (fun x _ => Dec.len x) j hj q hq, ← h3, List.getElem?_take, spot_eq, if_pos]
  have : (j + 1) * sz ≤ L.length * sz := Nat.mul_le_mul_right _ hj
  rw [Nat.add_mul] at this; omega
end

theorem rd_shift {c d : List Value} {k sz : Nat} (H : ∀ q, q < sz → c[k + q]? = d[q]?) : ∀ {n o : Nat} {vs : List Value}, o + n ≤ sz → rd d o n = some vs → rd c (k + o) n = some vs
  | 0, o, vs, _, h => by simpa [rd] using h
  | n + 1, o, vs, hl, h => by
    simp only [rd] at h ⊢
    rw [H o (by omega)]
    cases hd : d[o]? with
    | none => rw [hd] at h; cases h
    | some v =>
      rw [hd] at h
      simp only at h ⊢
      cases hr : rd d (o + 1) n with
      | none => rw [hr] at h; cases h
      | some us =>
        rw [hr] at h
        have := rd_shift H (by omega) hr
        rw [← Nat.add_assoc] at this
        rw [this]; exact h
theorem rd_len {d : List Value} : ∀ {n o : Nat} {vs : List Value}, rd d o n = some vs → 0 < n → o + n ≤ d.length
  | 0, _, _, _, h => by omega
  | n + 1, o, vs, h, _ => by
    simp only [rd] at h
    cases hd : d[o]? with
    | none => rw [hd] at h; cases h
    | some v =>
      rw [hd] at h
      have hl : o < d.length := by
        rcases Nat.lt_or_ge o d.length with h | h
        · exact h
        · simp [List.getElem?_eq_none h] at hd
      simp only at h
      cases hr : rd d (o + 1) n with
      | none => rw [hr] at h; cases h
      | some us =>
        rcases Nat.eq_zero_or_pos n with e | e
        · omega
        · have := rd_len hr e; omega

section
variable {P : Program} {n : Nat} {ops : Array Oper} {l : List Oper} {o : Oper} {E : Env} {D : List Deferred} {R : List SL} {h : PH} {K : S → Prop} {Q : Exit → S → Prop}
variable {α : Type} {enc : α → List Value} {sz : Nat} {L : List α} {m b cap : Nat} {e : TypeId}
theorem X_index_spot {x y : Operand} {t e : TypeId} {b len cap sz j : Nat} {k : IntKind} (ho : o.op = .indexAddr t x y) (ht : slOf P t = some e) (hs : szOf P e = some sz)
    (hx : ev E x = some (.slice (some ⟨b, 0, none⟩) len cap)) (hy : ev E y = some (.int k (j : Int))) (h1 : j < len) :
    Exec P n o ⟨E, D, R, h⟩ (Is (.pointer (some ⟨b, spot j sz 0, none⟩)) R h) :=
  X_index_own ho ht hs hx hy (by omega) (by omega) (by rw [spot_eq]; simp)
theorem X_index_row {x y : Operand} {t e1 : TypeId} {i j : Nat} {k : IntKind} (ho : o.op = .indexAddr t x y) (hx : ev E x = some (.slice (some ⟨b, 0, none⟩) m cap)) (_hi : R[i]? = some (rowL enc (.slice (some ⟨b, 0, none⟩) m cap) e sz L)) (ht : slOf P t = some e1) (hs : szOf P e1 = some sz)
    (hy : ev E y = some (.int k (j : Int))) (h1 : j < m) : Exec P n o ⟨E, D, R, h⟩ (Is (.pointer (some ⟨b, spot j sz 0, none⟩)) R h) := X_index_spot ho ht hs hx hy h1
theorem X_index_rowI {x y : Operand} {t e1 : TypeId} {i : Nat} {j : Int} {k : IntKind} (ho : o.op = .indexAddr t x y) (hx : ev E x = some (.slice (some ⟨b, 0, none⟩) m cap)) (_hi : R[i]? = some (rowL enc (.slice (some ⟨b, 0, none⟩) m cap) e sz L)) (ht : slOf P t = some e1) (hs : szOf P e1 = some sz)
    (hy : ev E y = some (.int k j)) (h0 : 0 ≤ j) (h1 : j < m) : Exec P n o ⟨E, D, R, h⟩ (Is (.pointer (some ⟨b, spot j.toNat sz 0, none⟩)) R h) := X_index_own ho ht hs hx hy h0 h1 (by rw [spot_eq]; simp)
theorem X_index_spotI {x y : Operand} {t e : TypeId} {b len cap sz : Nat} {j : Int} {k : IntKind} (ho : o.op = .indexAddr t x y) (ht : slOf P t = some e) (hs : szOf P e = some sz)
    (hx : ev E x = some (.slice (some ⟨b, 0, none⟩) len cap)) (hy : ev E y = some (.int k j)) (h0 : 0 ≤ j) (h1 : j < len) :
    Exec P n o ⟨E, D, R, h⟩ (Is (.pointer (some ⟨b, spot j.toNat sz 0, none⟩)) R h) :=
  X_index_own ho ht hs hx hy h0 h1 (by rw [spot_eq]; simp)
variable [Dec enc sz]
theorem X_fieldAddr_spot {x : Operand} {t : TypeId} {b j sz a i o' a' : Nat} (ho : o.op = .fieldAddr t x i) (hx : ev E x = some (.pointer (some ⟨b, spot j sz a, none⟩))) (hf : fpOf P t i = some o') (he : a + o' = a') :
    Exec P n o ⟨E, D, R, h⟩ (Is (.pointer (some ⟨b, spot j sz a', none⟩)) R h) := X_fieldAddr ho hx hf (by subst he; simp only [spot_eq]; omega)
theorem X_load_spot {x : Operand} {t : TypeId} {j q i : Nat} {v : Value} (ho : o.op = .load t x) (hx : ev E x = some (.pointer (some ⟨b, spot j sz q, none⟩))) (hi : R[i]? = some (rowL enc (.slice (some ⟨b, 0, none⟩) m cap) e sz L)) (hm : m = L.length)
    (ht : isA P t = some false) (hj : j < L.length) (hv : (enc L[j])[q]? = some v) : Exec P n o ⟨E, D, R, h⟩ (Is v R h) :=
  Exec_of_run fun _ _ _ a w _ ha hw => by
    obtain ⟨c, hb, _, _, _, hg⟩ := hw.rowcell hi hm
    have hq : q < sz := by rw [← Dec.len (enc := enc) L[j]]; exact idx_lt hv
    exact ⟨v, R, h, w, .inl (by simp [execOp, ho, ha.ev hx, Instr.loadAt, Instr.sureAddr, run_loadVar_one ht hb ((hg j hj q hq).trans hv)]), le.refl _, hw, rfl, rfl, rfl⟩
theorem X_loadA_spot {x : Operand} {t : TypeId} {j q i k : Nat} {vs : List Value} (ho : o.op = .load t x) (hx : ev E x = some (.pointer (some ⟨b, spot j sz q, none⟩))) (hi : R[i]? = some (rowL enc (.slice (some ⟨b, 0, none⟩) m cap) e sz L)) (hm : m = L.length)
    (ht : isA P t = some true) (hs : szOf P t = some k) (hk : Nat.blt 0 k = true) (hj : j < L.length) (hv : rd (enc L[j]) q k = some vs) : Exec P n o ⟨E, D, R, h⟩ (Is (.agg vs.toArray) R h) :=
  Exec_of_run fun _ _ _ a w _ ha hw => by
    obtain ⟨c, hb, _, _, _, hg⟩ := hw.rowcell hi hm
    have hq : q + k ≤ sz := by rw [← Dec.len (enc := enc) L[j]]; exact rd_len hv (by simpa using hk)
    have hr : rd c (spot j sz q) k = some vs := by
      rw [spot_eq]
      exact rd_shift (sz := sz) (fun p hp => by rw [← spot_eq]; exact hg j hj p hp) hq hv
    exact ⟨_, R, h, w, .inl (by simp [execOp, ho, ha.ev hx, Instr.loadAt, Instr.sureAddr, run_loadVar_agg ht hs hb hr]), le.refl _, hw, rfl, rfl, rfl⟩

theorem store_list {c vs : List Value} {L : List α} {j q : Nat} {x' : α} {cap : Nat} (hcap : L.length ≤ cap) (hc : c.length = cap * sz) (ht : c.take (L.length * sz) = L.flatMap enc) (hj : j < L.length) (hq : q + vs.length ≤ sz) (hx : wr (enc L[j]) q vs = enc x') :
    (wr c (spot j sz q) vs).take (L.length * sz) = (L.set j x').flatMap enc := by
  have hle : L.length * sz ≤ cap * sz := Nat.mul_le_mul_right _ hcap
  have hj1 : (j + 1) * sz ≤ L.length * sz := Nat.mul_le_mul_right _ hj
  rw [Nat.add_mul] at hj1
  have hgc : ∀ j' (hj' : j' < L.length) p, p < sz → c[j' * sz + p]? = (enc L[j'])[p]? := fun j' hj' p hp => by
    have h1 : (j' + 1) * sz ≤ L.length * sz := Nat.mul_le_mul_right _ hj'
    rw [Nat.add_mul] at h1
    rw [← flat_get' L (fun x _ => Dec.len x) j' hj' p hp, ← ht, List.getElem?_take, if_pos (by omega)]
  apply List.ext_getElem?
  intro p
  rcases Nat.lt_or_ge p (L.length * sz) with hp | hp
  · have hsz : 0 < sz := by
      rcases Nat.eq_zero_or_pos sz with h | h
      · subst h; simp at hp
      · exact h
    have hdm := Nat.div_add_mod p sz
    have hml := Nat.mod_lt p hsz
    have hjl : p / sz < L.length := Nat.div_lt_of_lt_mul (by rw [Nat.mul_comm]; exact hp)
    have hpe : p = p / sz * sz + p % sz := by rw [Nat.mul_comm (p / sz) sz]; omega
    generalize p / sz = j' at *
    generalize p % sz = r at *
    subst hpe
    have h1 : (j' + 1) * sz ≤ L.length * sz := Nat.mul_le_mul_right _ hjl
    rw [flat_get' (L.set j x') (fun x _ => Dec.len x) j' (by simpa using hjl) r hml, List.getElem?_take, if_pos hp, spot_eq, wr_get (by omega)]
    rw [List.getElem_set]
    by_cases hjj : j = j'
    · subst hjj
      rw [if_pos rfl, ← hx, wr_get (by rw [Dec.len]; omega)]
      by_cases hr : q ≤ r ∧ r < q + vs.length
      · rw [if_pos (by omega), if_pos hr]; congr 1; omega
      · rw [if_neg (by omega), if_neg hr]; exact hgc j hj r hml
    · rw [if_neg hjj, if_neg]
      · exact hgc j' hjl r hml
      · intro hc2
        rcases Nat.lt_or_ge j j' with h | h
        · have : (j + 1) * sz ≤ j' * sz := Nat.mul_le_mul_right _ h
          rw [Nat.add_mul] at this; omega
        · have : (j' + 1) * sz ≤ j * sz := Nat.mul_le_mul_right _ (by omega)
          rw [Nat.add_mul] at this; omega
  · rw [List.getElem?_take, if_neg (by omega), List.getElem?_eq_none]
    rw [flat_len _ (fun x _ => Dec.len x)]; simpa using hp

theorem X_store_spot {x y : Operand} {t : TypeId} {j q i k : Nat} {vs : List Value} {v : Value} {x' : α} (ho : o.op = .store t x y) (hx : ev E x = some (.pointer (some ⟨b, spot j sz q, none⟩))) (hy : ev E y = some v) (hi : R[i]? = some (rowL enc (.slice (some ⟨b, 0, none⟩) m cap) e sz L)) (hm : m = L.length)
    (hs : szOf P t = some k) (hv : vcO v = some vs) (hl : Nat.beq vs.length k = true) (hf : vs.all flat = true) (hq : Nat.ble (q + k) sz = true) (hj : j < L.length) (hd : Dec.dec enc (wr (enc L[j]) q vs) = some x') :
    Exec P n o ⟨E, D, R, h⟩ (Ret fun _ R' h' => R' = R.set i (rowL enc (.slice (some ⟨b, 0, none⟩) m cap) e sz (L.set j x')) ∧ h' = h) :=
  Exec_of_run fun κ h0 f a w hf0 ha hw => by
    subst hm
    have hx' := (Dec.ok _ _ hd).symm
    obtain ⟨c, h1, h2, h3, h4, h5⟩ := hw.rowblk hi
    have hiL := idx_lt hi
    have hget : (R.set i (blk b c e))[i]? = some (blk b c e) := by simp [hiL]
    have hl' : vs.length = k := Nat.eq_of_beq_eq_true hl
    have hq' : q + k ≤ sz := Nat.le_of_ble_eq_true hq
    have hj1 : (j + 1) * sz ≤ L.length * sz := Nat.mul_le_mul_right _ hj
    have hle : L.length * sz ≤ cap * sz := Nat.mul_le_mul_right _ h1
    rw [Nat.add_mul] at hj1
    have h6 := h5.turnRow (c' := wr c (spot j sz q) vs) hget
    have h7 := Upd.blkrow (b := b) (e := e) (c := wr c (spot j sz q) vs) (sz := sz) (cap := cap) (m := L.length) (xs := (L.set j x').flatMap enc) i (R := (R.set i (blk b c e)).set i (blk b (wr c (spot j sz q) vs) e)) (by rw [List.getElem?_set_self (by simpa using hiL)]) h1 (by rw [wr_length]; exact h2)
      (store_list (enc := enc) h1 h2 h3 hj (by omega) hx') κ h0 f _ hf0 h6
    refine ⟨undef, _, h, _, .inr ⟨rfl, by
      simp only [execOp, ho, ha.ev hx, ha.ev hy, Instr.storeAt, Instr.sureAddr, Sem.run_bind, Sem.run_pure, Result.andThen_ok]
      rw [run_storeVar_at hs (vcO_eq hv) hl' hf (h5.obj_at hget) (by rw [spot_eq]; omega)]; rfl⟩, le.refl _, h7, ?_, rfl⟩
    simp [rowL]
theorem WL_store_spot {x y : Operand} {t : TypeId} {j q i k : Nat} {vs : List Value} {v : Value} {x' : α} {R' : List SL} (ho : o.op = .store t x y) (hx : ev E x = some (.pointer (some ⟨b, spot j sz q, none⟩))) (hy : ev E y = some v) (hi : R[i]? = some (rowL enc (.slice (some ⟨b, 0, none⟩) m cap) e sz L)) (hm : m = L.length)
    (hs : szOf P t = some k) (hv : vcO v = some vs) (hl : Nat.beq vs.length k = true) (hf : vs.all flat = true) (hq : Nat.ble (q + k) sz = true) (hj : j < L.length) (hd : Dec.dec enc (wr (enc L[j]) q vs) = some x') (hdst : o.dst = none) (hg : gd ops E o = some true)
    (hR : setR R i (rowL enc (.slice (some ⟨b, 0, none⟩) m cap) e sz (L.set j x')) = some R')
    (k : WL P n ops l ⟨E, D, R', h⟩ K Q) : WL P n ops (o :: l) ⟨E, D, R, h⟩ K Q :=
  WL_do (X_store_spot ho hx hy hi hm hs hv hl hf hq hj hd) hdst hg fun _ _ _ _ ⟨e1, e2⟩ => by subst e1; subst e2; rw [setR_eq hR]; exact k
end
end Go.Par
