/- Directories: what is ranged over. -/
import Derived.Test.YtgpanbmjmpondaaDirC
namespace Go.Proofs.Ytgpanbmjmpondaa
set_option maxRecDepth 4000
open Go Go.Par PH
attribute [local irreducible] W WL Does Exec Body Then inBlk RG WR row obj pblk
theorem slots_fn (h : PH) (v : Value) (d : Dr) (hv : DrV h v d) (hb : maxR d ≤ 1000000) : Does Try.prog 30 [v] [] h (Ret fun r R' h' => R' = [] ∧ ∃ lb : List Value, r = .func (.func 41) #[] lb.toArray ∧ ∀ h'', le h' h'' → Iter Try.prog 41 lb [] (slotsL d).length (argS d) h'') := by
  obtain ⟨x0, x1, x2, x3, rfl, h0, h1, h2, h3⟩ := hv
  obtain ⟨_, _, rfl⟩ := h0.shape
  obtain ⟨_, _, rfl⟩ := h1.shape
  obtain ⟨_, _, rfl⟩ := h2.shape
  obtain ⟨_, _, rfl⟩ := h3.shape
  unfold drV
  refine Does_of_W Try.func30 rfl (n := 4) rfl rfl (by simp only [argE] <;> rfl) ?_
  (repeat (first | refine WL_nil ?_ | refine WR_succ ?_ | refine Then_normal ?_ | refine W_seq ?_ | refine W_skip ?_ | refine W_ret ?_ | refine W_exit ?_ | refine W_block ?_ | refine Then_ret ?_ | refine Then_panic ?_ | refine inBlk_panic ?_ | refine Then_exit ?_ | refine inBlk_ret ?_ | refine inBlk_normal ?_ | refine inBlk_here ?_ | refine inBlk_out rfl ?_ | refine W_scope ?_ | refine W_label ?_ | refine noG_ret ?_ | refine noG_normal ?_ | refine noG_exit ?_ | refine toG_ret ?_ | refine toG_normal ?_ | refine toG_exit ?_ | refine W_goto ?_ | refine Then_goto ?_ | refine inBlk_goto ?_ | refine toG_here ?_ | refine W_true rfl ?_ | refine W_false rfl ?_))
  refine W_region rfl ?_
  (first | (refine WL_box rfl rfl rfl rfl rfl rfl ?_; intro b_) | (refine WL_boxV rfl rfl (by simp only [vc] <;> rfl) rfl rfl rfl ?_; intro b_))
  generalize b_ = b1
  (first | refine WL_is (X_assign rfl rfl) rfl rfl rfl ?_)
  (repeat (first | refine WL_nil ?_ | refine WR_succ ?_ | refine Then_normal ?_ | refine W_seq ?_ | refine W_skip ?_ | refine W_ret ?_ | refine W_exit ?_ | refine W_block ?_ | refine Then_ret ?_ | refine Then_panic ?_ | refine inBlk_panic ?_ | refine Then_exit ?_ | refine inBlk_ret ?_ | refine inBlk_normal ?_ | refine inBlk_here ?_ | refine inBlk_out rfl ?_ | refine W_scope ?_ | refine W_label ?_ | refine noG_ret ?_ | refine noG_normal ?_ | refine noG_exit ?_ | refine toG_ret ?_ | refine toG_normal ?_ | refine toG_exit ?_ | refine W_goto ?_ | refine Then_goto ?_ | refine inBlk_goto ?_ | refine toG_here ?_ | refine W_true rfl ?_ | refine W_false rfl ?_))
  refine W_updE (UpdE.freeze 0 rfl) ?_
  rintro _ H1 L1 ⟨rfl, hb1⟩
  have at1 := At.of_blk hb1
  simp only [List.eraseIdx_cons_zero]
  (repeat (first | refine WL_nil ?_ | refine WR_succ ?_ | refine Then_normal ?_ | refine W_seq ?_ | refine W_skip ?_ | refine W_ret ?_ | refine W_exit ?_ | refine W_block ?_ | refine Then_ret ?_ | refine Then_panic ?_ | refine inBlk_panic ?_ | refine Then_exit ?_ | refine inBlk_ret ?_ | refine inBlk_normal ?_ | refine inBlk_here ?_ | refine inBlk_out rfl ?_ | refine W_scope ?_ | refine W_label ?_ | refine noG_ret ?_ | refine noG_normal ?_ | refine noG_exit ?_ | refine toG_ret ?_ | refine toG_normal ?_ | refine toG_exit ?_ | refine W_goto ?_ | refine Then_goto ?_ | refine inBlk_goto ?_ | refine toG_here ?_ | refine W_true rfl ?_ | refine W_false rfl ?_))
  refine W_region rfl ?_
  (first | refine WL_is (X_makeFunc rfl rfl rfl) rfl rfl rfl ?_)
  (first | refine WL_is (X_assign rfl rfl) rfl rfl rfl ?_)
  (repeat (first | refine WL_nil ?_ | refine WR_succ ?_ | refine Then_normal ?_ | refine W_seq ?_ | refine W_skip ?_ | refine W_ret ?_ | refine W_exit ?_ | refine W_block ?_ | refine Then_ret ?_ | refine Then_panic ?_ | refine inBlk_panic ?_ | refine Then_exit ?_ | refine inBlk_ret ?_ | refine inBlk_normal ?_ | refine inBlk_here ?_ | refine inBlk_out rfl ?_ | refine W_scope ?_ | refine W_label ?_ | refine noG_ret ?_ | refine noG_normal ?_ | refine noG_exit ?_ | refine toG_ret ?_ | refine toG_normal ?_ | refine toG_exit ?_ | refine W_goto ?_ | refine Then_goto ?_ | refine inBlk_goto ?_ | refine toG_here ?_ | refine W_true rfl ?_ | refine W_false rfl ?_))
  refine Body_end rfl rfl rfl (SubR.refl _) ⟨rfl, [.pointer (some ⟨b1, 0, none⟩)], rfl, fun h'' hl => ?_⟩
  exact slots_iter h'' _ _ _ _ _ d (at1.mono hl) ((h0.mono L1).mono hl) ((h1.mono L1).mono hl) ((h2.mono L1).mono hl) ((h3.mono L1).mono hl) hb
end Go.Proofs.Ytgpanbmjmpondaa
