/-
  Walks of the program's functions, printed by program: what each returns.
  Conditions stand in each theorem.
-/
import Derived.WalkArith
import Derived.Laws.Closers25b
import Derived.Test.YtoemnobfnnjopaaDoorWj
import Derived.Test.YtoemnobfnnjopaaDoorWk
set_option linter.unusedSimpArgs false
set_option linter.unusedVariables false
namespace Go.Proofs.YtoemnobfnnjopaaDoor
open Go.RowKit Go
open Go.K (setd setn ev nth over cl eI eP eT setM setF)
attribute [local irreducible] K.blk K.row
theorem eI_at0 {xs : List Int} {k : Nat} (h : k < xs.length) : (xs.flatMap K.eI)[0 + k * 1]? = some (.int .i64 (xs.getD k default)) := by
  have := eI_at h
  rwa [List.drop_zero] at this
theorem eI_snoc {xs : List Int} {x : Int} : xs.flatMap K.eI ++ [.int .i64 x] = (xs ++ [x]).flatMap K.eI := by rw [List.flatMap_append]; rfl

/-- What the search's function does, with f points left. -/
def Go66 (r : List RvT) (A : Option Addr) (c q p1 p2 p3 p4 p5 p6 p7 f : Nat) (w0 : World) : Prop :=
  ∀ {m i : Nat} {cs l best : List Int} {fw : Int} {cv lv : List Value} {Q1 Q4 Q5 : Option Addr} {c1 c4 c5 : Nat} {T : List K.Chunk} {w : World}, K.St w0 (K.blk p1 26 [.slice Q1 m c1] :: K.row (.slice Q1 m c1) 3 1 m cv :: K.blk p2 3 [.int .i64 fw] :: K.blk p4 26 [.slice Q4 i c4] :: K.row (.slice Q4 i c4) 3 1 i lv :: K.blk p5 26 [.slice Q5 best.length c5] :: K.row (.slice Q5 best.length c5) 3 1 best.length (best.flatMap K.eI) :: K.blk p3 22 [.slice A r.length c] :: K.blk p6 65 [.pointer (some ⟨q, 0, none⟩)] :: K.blk p7 86 [.func (.func 66) #[] #[.pointer (some ⟨p1, 0, none⟩), .pointer (some ⟨p2, 0, none⟩), .pointer (some ⟨p3, 0, none⟩), .pointer (some ⟨p4, 0, none⟩), .pointer (some ⟨p5, 0, none⟩), .pointer (some ⟨p6, 0, none⟩), .pointer (some ⟨p7, 0, none⟩)]] :: K.blk q 79 (.slice A r.length c :: dcell (drT r)) :: T) w → m = cs.length → cv = cs.flatMap K.eI → i = l.length → lv = l.flatMap K.eI → CsOk cs i → f + i = r.length → Calls Tryd.prog 66 [.int .i64 (i : Int), .pointer (some ⟨p1, 0, none⟩), .pointer (some ⟨p2, 0, none⟩), .pointer (some ⟨p3, 0, none⟩), .pointer (some ⟨p4, 0, none⟩), .pointer (some ⟨p5, 0, none⟩), .pointer (some ⟨p6, 0, none⟩), .pointer (some ⟨p7, 0, none⟩)].toArray w (K.RetU (fun _ : (Option Addr × Nat) × (Option Addr × Nat) × (Option Addr × Nat) => True) (fun _ => .tuple #[]) w0 (fun z => K.blk p1 26 [.slice z.1.1 m z.1.2] :: K.row (.slice z.1.1 m z.1.2) 3 1 m cv :: K.blk p2 3 [.int .i64 (fillP r f cs l (best, fw)).2] :: K.blk p4 26 [.slice z.2.1.1 i z.2.1.2] :: K.row (.slice z.2.1.1 i z.2.1.2) 3 1 i lv :: K.blk p5 26 [.slice z.2.2.1 (fillP r f cs l (best, fw)).1.length z.2.2.2] :: K.row (.slice z.2.2.1 (fillP r f cs l (best, fw)).1.length z.2.2.2) 3 1 (fillP r f cs l (best, fw)).1.length ((fillP r f cs l (best, fw)).1.flatMap K.eI) :: K.blk p3 22 [.slice A r.length c] :: K.blk p6 65 [.pointer (some ⟨q, 0, none⟩)] :: K.blk p7 86 [.func (.func 66) #[] #[.pointer (some ⟨p1, 0, none⟩), .pointer (some ⟨p2, 0, none⟩), .pointer (some ⟨p3, 0, none⟩), .pointer (some ⟨p4, 0, none⟩), .pointer (some ⟨p5, 0, none⟩), .pointer (some ⟨p6, 0, none⟩), .pointer (some ⟨p7, 0, none⟩)]] :: K.blk q 79 (.slice A r.length c :: dcell (drT r)) :: T))


set_option maxRecDepth 100000 in
theorem c70 {r : List RvT} {A : Option Addr} {c b i k p6 b8 : Nat} {w : World} (h6 : K.PtrL w [] ⟨p6, 0, none⟩ [.pointer (some ⟨b, 0, none⟩)]) (h8 : K.PtrL w [] ⟨b8, 0, none⟩ [.int .i64 (i : Int)]) (hX : K.PtrL w [] ⟨b, 0, none⟩ (.slice A r.length c :: dcell (drT r))) (hXb : b < w.heap.size) (hR : K.Rd w A 4 eR r) (g : Good r) (hi : i < r.length) (hk : k < r.length) :
    Calls Tryd.prog 70 [.int .i64 (k : Int), .pointer (some ⟨p6, 0, none⟩), .pointer (some ⟨b8, 0, none⟩)].toArray w (K.Gives (.bool (!conS r i k)) w) := by
  refine K.enter (args := [.int .i64 (k : Int), .pointer (some ⟨p6, 0, none⟩), .pointer (some ⟨b8, 0, none⟩)]) Tryd.func70 rfl (n := 7) rfl ?_
  simp only [List.replicate, List.cons_append, List.nil_append]
  refine sr ?_
  refine qa ?_
  refine sn ?_
  refine sr ?_
  refine K.seq_sil (K.load1 one_65 rfl (h6.any)) rfl ?_
  refine zN ?_
  refine K.seq_sil (K.load1 one_3 rfl (h8.any)) rfl ?_
  refine zN ?_
  refine qm ?_
  refine K.seq_call (K.call_g cal_71 (fun F w hF hw => c71 (hX.into hXb hw) (K.lt_into hXb hw) (hR.pass hw) g hi hk)) rfl ?_
  refine zN ?_
  first | refine K.seq_pure (K.not_d rfl) rfl ?_ | refine K.seq_pure (K.not_ rfl) rfl ?_
  refine zN ?_
  refine qa ?_
  refine sn ?_
  refine K.ret ?_
  refine K.end_ret (fun w _ => K.res_tmp rfl w) ?_
  exact K.gives_b rfl rfl

set_option maxRecDepth 100000 in
theorem c66_0 {r : List RvT} {A : Option Addr} {c q : Nat} {p1 p2 p3 p4 p5 p6 p7 : Nat} {w0 : World} (hR : K.Rd w0 A 4 eR r) (hT : Tab w0) (g : Good r) {m i : Nat} {cs l best : List Int} {fw : Int} {cv lv : List Value} {Q1 Q4 Q5 : Option Addr} {c1 c4 c5 : Nat} {T : List K.Chunk} {w : World} (hst : K.St w0 (K.blk p1 26 [.slice Q1 m c1] :: K.row (.slice Q1 m c1) 3 1 m cv :: K.blk p2 3 [.int .i64 fw] :: K.blk p4 26 [.slice Q4 i c4] :: K.row (.slice Q4 i c4) 3 1 i lv :: K.blk p5 26 [.slice Q5 best.length c5] :: K.row (.slice Q5 best.length c5) 3 1 best.length (best.flatMap K.eI) :: K.blk p3 22 [.slice A r.length c] :: K.blk p6 65 [.pointer (some ⟨q, 0, none⟩)] :: K.blk p7 86 [.func (.func 66) #[] #[.pointer (some ⟨p1, 0, none⟩), .pointer (some ⟨p2, 0, none⟩), .pointer (some ⟨p3, 0, none⟩), .pointer (some ⟨p4, 0, none⟩), .pointer (some ⟨p5, 0, none⟩), .pointer (some ⟨p6, 0, none⟩), .pointer (some ⟨p7, 0, none⟩)]] :: K.blk q 79 (.slice A r.length c :: dcell (drT r)) :: T) w) (hm : m = cs.length) (hcv : cv = cs.flatMap K.eI) (hi : i = l.length) (hlv : lv = l.flatMap K.eI) (hcs : CsOk cs i) (hf : 0 + i = r.length) :
    Calls Tryd.prog 66 [.int .i64 (i : Int), .pointer (some ⟨p1, 0, none⟩), .pointer (some ⟨p2, 0, none⟩), .pointer (some ⟨p3, 0, none⟩), .pointer (some ⟨p4, 0, none⟩), .pointer (some ⟨p5, 0, none⟩), .pointer (some ⟨p6, 0, none⟩), .pointer (some ⟨p7, 0, none⟩)].toArray w (K.RetU (fun _ : (Option Addr × Nat) × (Option Addr × Nat) × (Option Addr × Nat) => True) (fun _ => .tuple #[]) w0 (fun z => K.blk p1 26 [.slice z.1.1 m z.1.2] :: K.row (.slice z.1.1 m z.1.2) 3 1 m cv :: K.blk p2 3 [.int .i64 (fillP r 0 cs l (best, fw)).2] :: K.blk p4 26 [.slice z.2.1.1 i z.2.1.2] :: K.row (.slice z.2.1.1 i z.2.1.2) 3 1 i lv :: K.blk p5 26 [.slice z.2.2.1 (fillP r 0 cs l (best, fw)).1.length z.2.2.2] :: K.row (.slice z.2.2.1 (fillP r 0 cs l (best, fw)).1.length z.2.2.2) 3 1 (fillP r 0 cs l (best, fw)).1.length ((fillP r 0 cs l (best, fw)).1.flatMap K.eI) :: K.blk p3 22 [.slice A r.length c] :: K.blk p6 65 [.pointer (some ⟨q, 0, none⟩)] :: K.blk p7 86 [.func (.func 66) #[] #[.pointer (some ⟨p1, 0, none⟩), .pointer (some ⟨p2, 0, none⟩), .pointer (some ⟨p3, 0, none⟩), .pointer (some ⟨p4, 0, none⟩), .pointer (some ⟨p5, 0, none⟩), .pointer (some ⟨p6, 0, none⟩), .pointer (some ⟨p7, 0, none⟩)]] :: K.blk q 79 (.slice A r.length c :: dcell (drT r)) :: T)) := by
  subst hm hcv hi hlv
  have hgn := g.n
  have hcl := hcs.l
  refine K.enterU (args := [.int .i64 (l.length : Int), .pointer (some ⟨p1, 0, none⟩), .pointer (some ⟨p2, 0, none⟩), .pointer (some ⟨p3, 0, none⟩), .pointer (some ⟨p4, 0, none⟩), .pointer (some ⟨p5, 0, none⟩), .pointer (some ⟨p6, 0, none⟩), .pointer (some ⟨p7, 0, none⟩)]) Tryd.func66 rfl (n := 87) rfl hst ?_
  simp only [List.replicate, List.cons_append, List.nil_append]
  refine sr ?_
  refine K.seq_new (K.box) rfl ?_
  intro b8
  refine zN ?_
  refine sn ?_
  refine K.seq ?_
  refine K.block ?_
  refine sr ?_
  refine K.permH (L' := _ :: _ :: _ :: _ :: _ :: _ :: _ :: _ :: _ :: _ :: _ :: _ :: _) (List.Perm.trans (List.perm_middle (l₁ := [_])) (List.Perm.cons _ (List.Perm.trans (List.perm_middle (l₁ := [_])) (List.Perm.cons _ (List.Perm.trans (List.perm_middle (l₁ := [_])) (List.Perm.cons _ (List.Perm.trans (List.perm_middle (l₁ := [_])) (List.Perm.cons _ (List.Perm.trans (List.perm_middle (l₁ := [_])) (List.Perm.cons _ (List.Perm.trans (List.perm_middle (l₁ := [_])) (List.Perm.cons _ (List.Perm.trans (List.perm_middle (l₁ := [_])) (List.Perm.cons _ (List.Perm.trans (List.perm_middle (l₁ := [_])) (List.Perm.cons _ (List.Perm.trans (List.perm_middle (l₁ := [_])) (List.Perm.cons _ (List.Perm.trans (List.perm_middle (l₁ := [_])) (List.Perm.cons _ (List.Perm.trans (List.perm_middle (l₁ := [_])) (List.Perm.cons _ (List.Perm.refl _))))))))))))))))))))))) ?_
  refine K.seq_sil (K.load1_own one_26 rfl (K.m0) rfl) rfl ?_
  refine zN ?_
  refine qp (K.len_sl sl_26 rfl) ?_
  refine K.seq_sil (K.load1_own one_3 rfl (K.m2) rfl) rfl ?_
  refine zN ?_
  refine qp (K.geq rfl rfl) ?_
  refine qa ?_
  refine sn ?_
  refine K.cond rfl (fun ht10 => ?_) (fun ht10 => ?_)
  · try replace ht10 := of_decide_eq_true ht10
    refine K.ret ?_
    refine K.ret_block ?_
    refine K.ret_then ?_
    refine K.end_ret (fun w _ => K.res_none rfl w) ?_
    have hfp : (fillP r 0 cs l (best, fw)) = (best, fw) := fillP_cut (by simp only; omega) _
    exact K.retsU ((Q1, c1), (Q4, c4), (Q5, c5)) trivial rfl (by rw [hfp]; exact (List.Sublist.cons_cons _ (List.Sublist.cons_cons _ (List.Sublist.cons_cons _ (List.Sublist.cons_cons _ (List.Sublist.cons_cons _ (List.Sublist.cons_cons _ (List.Sublist.cons_cons _ (List.Sublist.cons_cons _ (List.Sublist.cons_cons _ (List.Sublist.cons_cons _ (List.Sublist.cons_cons _ (List.Sublist.cons _ (List.Sublist.refl _))))))))))))))
  try replace ht10 := of_decide_eq_false ht10
  refine K.seq ?_
  refine K.use_row (A := Q4) K.m4 (fun hq4 => ?_)
  refine K.region_lit ?_
  refine K.permH (L' := _ :: _ :: _ :: _ :: _ :: _ :: _ :: _ :: _ :: _ :: _ :: _ :: _) (List.Perm.trans (List.perm_middle (l₁ := [_, _, _, _, _])) (List.Perm.cons _ (List.Perm.trans (List.perm_middle (l₁ := [_, _])) (List.Perm.cons _ (List.Perm.refl _))))) ?_
  refine K.seq_sil (K.load1_own one_3 rfl (K.m11) rfl) rfl ?_
  refine zN ?_
  refine K.seq_sil (K.load1_own one_22 rfl (K.m7) rfl) rfl ?_
  refine zN ?_
  refine qp (K.len_sl sl_22 rfl) ?_
  refine qp (K.eql rfl rfl) ?_
  refine qa ?_
  refine sn ?_
  refine K.cond_true (by exact congrArg Value.bool (decide_eq_true (by omega))) ?_
  refine K.seq ?_
  refine K.draw_drop 2 [] Tryd_mixed ?_
  refine K.d_mem 0 rfl (K.load1_own one_26 rfl (K.m2) rfl) (fun _ h => K.tl (K.tl h)) (by kernel_rfl) (by kernel_rfl) rfl ?_
  refine zN ?_
  refine K.d_mem 2 rfl (K.load1_own one_26 rfl (K.m0) rfl) (fun _ h => K.tl (K.tl h)) (by kernel_rfl) (by kernel_rfl) rfl ?_
  refine zN ?_
  refine K.d_pure 3 rfl (K.len_sl sl_26 rfl) (by kernel_rfl) rfl ?_
  refine zn ?_
  refine K.d_loud 1 rfl (K.call_f cal_67 (fun F w hF hw => (by have hh := (K.Rd.own (e := K.eI) (xs := l) hw (hF _ (K.m5)) hq4 (fun _ => rfl) (by decide)); exact c67 hh (by omega)))) (fun _ h => K.tl (K.tl h)) (by kernel_rfl) rfl ?_
  rintro ⟨Q6, q6⟩ hq6
  refine zN ?_
  refine K.d_upd 4 rfl (K.store sz_26 rfl rfl rfl rfl (K.rp1)) (fun _ => fun _ h => K.tl (K.tl (K.tl h))) (by kernel_rfl) rfl ?_
  intro _ _
  refine zN ?_
  refine K.d_upd 5 rfl (K.store sz_3 rfl rfl rfl rfl (K.rp2)) (fun _ => fun _ h => K.tl (K.tl (K.tl h))) (by kernel_rfl) rfl ?_
  intro _ _
  refine zN ?_
  refine K.d_done (by kernel_rfl) ?_
  refine K.norm_then ?_
  refine K.ret ?_
  refine K.ret_block ?_
  refine K.ret_then ?_
  refine K.end_ret (fun w _ => K.res_none rfl w) ?_
  have hfp : (fillP r 0 cs l (best, fw)) = (l, (cs.length : Int)) := fillP_end (by simp only; omega)
  refine K.weak (L' := _ :: _ :: _ :: _ :: _ :: _ :: _ :: _ :: _ :: _ :: _ :: _) ((List.Sublist.cons_cons _ (List.Sublist.cons_cons _ (List.Sublist.cons_cons _ (List.Sublist.cons_cons _ (List.Sublist.cons_cons _ (List.Sublist.cons_cons _ (List.Sublist.cons_cons _ (List.Sublist.cons _ (List.Sublist.cons_cons _ (List.Sublist.cons_cons _ (List.Sublist.cons_cons _ (List.Sublist.cons_cons _ (List.Sublist.cons _ (List.Sublist.refl _))))))))))))))) ?_
  refine K.permH (L' := K.blk p1 26 [.slice Q1 cs.length c1] :: K.row (.slice Q1 cs.length c1) 3 1 cs.length (cs.flatMap K.eI) :: K.blk p2 3 [.int .i64 (cs.length : Int)] :: K.blk p4 26 [.slice Q4 l.length c4] :: K.row (.slice Q4 l.length c4) 3 1 l.length (l.flatMap K.eI) :: K.blk p5 26 [.slice Q6 l.length q6] :: K.row (.slice Q6 l.length q6) 3 1 l.length (l.flatMap K.eI) :: K.blk p3 22 [.slice A r.length c] :: K.blk p6 65 [.pointer (some ⟨q, 0, none⟩)] :: K.blk p7 86 [.func (.func 66) #[] #[.pointer (some ⟨p1, 0, none⟩), .pointer (some ⟨p2, 0, none⟩), .pointer (some ⟨p3, 0, none⟩), .pointer (some ⟨p4, 0, none⟩), .pointer (some ⟨p5, 0, none⟩), .pointer (some ⟨p6, 0, none⟩), .pointer (some ⟨p7, 0, none⟩)]] :: K.blk q 79 (.slice A r.length c :: dcell (drT r)) :: T) (List.Perm.trans (List.perm_middle (l₁ := [_, _, _])) (List.Perm.cons _ (List.Perm.trans (List.perm_middle (l₁ := [_, _, _])) (List.Perm.cons _ (List.Perm.trans (List.perm_middle (l₁ := [_, _])) (List.Perm.cons _ (List.Perm.trans (List.perm_middle (l₁ := [_, _])) (List.Perm.cons _ (List.Perm.trans (List.perm_middle (l₁ := [_, _])) (List.Perm.cons _ (List.Perm.trans (List.perm_middle (l₁ := [_])) (List.Perm.cons _ (List.Perm.refl _))))))))))))) ?_
  exact K.retsU ((Q1, c1), (Q4, c4), (Q6, q6)) trivial rfl (by rw [hfp]; exact List.Sublist.refl _)

set_option maxRecDepth 100000 in
set_option maxHeartbeats 4000000 in
theorem c66_s {r : List RvT} {A : Option Addr} {c q : Nat} {p1 p2 p3 p4 p5 p6 p7 : Nat} {w0 : World} (hR : K.Rd w0 A 4 eR r) (hT : Tab w0) (g : Good r) {f : Nat} (IH : Go66 r A c q p1 p2 p3 p4 p5 p6 p7 f w0) {m i : Nat} {cs l best : List Int} {fw : Int} {cv lv : List Value} {Q1 Q4 Q5 : Option Addr} {c1 c4 c5 : Nat} {T : List K.Chunk} {w : World} (hst : K.St w0 (K.blk p1 26 [.slice Q1 m c1] :: K.row (.slice Q1 m c1) 3 1 m cv :: K.blk p2 3 [.int .i64 fw] :: K.blk p4 26 [.slice Q4 i c4] :: K.row (.slice Q4 i c4) 3 1 i lv :: K.blk p5 26 [.slice Q5 best.length c5] :: K.row (.slice Q5 best.length c5) 3 1 best.length (best.flatMap K.eI) :: K.blk p3 22 [.slice A r.length c] :: K.blk p6 65 [.pointer (some ⟨q, 0, none⟩)] :: K.blk p7 86 [.func (.func 66) #[] #[.pointer (some ⟨p1, 0, none⟩), .pointer (some ⟨p2, 0, none⟩), .pointer (some ⟨p3, 0, none⟩), .pointer (some ⟨p4, 0, none⟩), .pointer (some ⟨p5, 0, none⟩), .pointer (some ⟨p6, 0, none⟩), .pointer (some ⟨p7, 0, none⟩)]] :: K.blk q 79 (.slice A r.length c :: dcell (drT r)) :: T) w) (hm : m = cs.length) (hcv : cv = cs.flatMap K.eI) (hi : i = l.length) (hlv : lv = l.flatMap K.eI) (hcs : CsOk cs i) (hf : f + 1 + i = r.length) :
    Calls Tryd.prog 66 [.int .i64 (i : Int), .pointer (some ⟨p1, 0, none⟩), .pointer (some ⟨p2, 0, none⟩), .pointer (some ⟨p3, 0, none⟩), .pointer (some ⟨p4, 0, none⟩), .pointer (some ⟨p5, 0, none⟩), .pointer (some ⟨p6, 0, none⟩), .pointer (some ⟨p7, 0, none⟩)].toArray w (K.RetU (fun _ : (Option Addr × Nat) × (Option Addr × Nat) × (Option Addr × Nat) => True) (fun _ => .tuple #[]) w0 (fun z => K.blk p1 26 [.slice z.1.1 m z.1.2] :: K.row (.slice z.1.1 m z.1.2) 3 1 m cv :: K.blk p2 3 [.int .i64 (fillP r (f + 1) cs l (best, fw)).2] :: K.blk p4 26 [.slice z.2.1.1 i z.2.1.2] :: K.row (.slice z.2.1.1 i z.2.1.2) 3 1 i lv :: K.blk p5 26 [.slice z.2.2.1 (fillP r (f + 1) cs l (best, fw)).1.length z.2.2.2] :: K.row (.slice z.2.2.1 (fillP r (f + 1) cs l (best, fw)).1.length z.2.2.2) 3 1 (fillP r (f + 1) cs l (best, fw)).1.length ((fillP r (f + 1) cs l (best, fw)).1.flatMap K.eI) :: K.blk p3 22 [.slice A r.length c] :: K.blk p6 65 [.pointer (some ⟨q, 0, none⟩)] :: K.blk p7 86 [.func (.func 66) #[] #[.pointer (some ⟨p1, 0, none⟩), .pointer (some ⟨p2, 0, none⟩), .pointer (some ⟨p3, 0, none⟩), .pointer (some ⟨p4, 0, none⟩), .pointer (some ⟨p5, 0, none⟩), .pointer (some ⟨p6, 0, none⟩), .pointer (some ⟨p7, 0, none⟩)]] :: K.blk q 79 (.slice A r.length c :: dcell (drT r)) :: T)) := by
  subst hm hcv hi hlv
  have hgn := g.n
  have hcl := hcs.l
  refine K.enterU (args := [.int .i64 (l.length : Int), .pointer (some ⟨p1, 0, none⟩), .pointer (some ⟨p2, 0, none⟩), .pointer (some ⟨p3, 0, none⟩), .pointer (some ⟨p4, 0, none⟩), .pointer (some ⟨p5, 0, none⟩), .pointer (some ⟨p6, 0, none⟩), .pointer (some ⟨p7, 0, none⟩)]) Tryd.func66 rfl (n := 87) rfl hst ?_
  simp only [List.replicate, List.cons_append, List.nil_append]
  refine sr ?_
  refine K.seq_new (K.box) rfl ?_
  intro b8
  refine zN ?_
  refine sn ?_
  refine K.seq ?_
  refine K.block ?_
  refine sr ?_
  refine K.permH (L' := _ :: _ :: _ :: _ :: _ :: _ :: _ :: _ :: _ :: _ :: _ :: _ :: _) (List.Perm.trans (List.perm_middle (l₁ := [_])) (List.Perm.cons _ (List.Perm.trans (List.perm_middle (l₁ := [_])) (List.Perm.cons _ (List.Perm.trans (List.perm_middle (l₁ := [_])) (List.Perm.cons _ (List.Perm.trans (List.perm_middle (l₁ := [_])) (List.Perm.cons _ (List.Perm.trans (List.perm_middle (l₁ := [_])) (List.Perm.cons _ (List.Perm.trans (List.perm_middle (l₁ := [_])) (List.Perm.cons _ (List.Perm.trans (List.perm_middle (l₁ := [_])) (List.Perm.cons _ (List.Perm.trans (List.perm_middle (l₁ := [_])) (List.Perm.cons _ (List.Perm.trans (List.perm_middle (l₁ := [_])) (List.Perm.cons _ (List.Perm.trans (List.perm_middle (l₁ := [_])) (List.Perm.cons _ (List.Perm.trans (List.perm_middle (l₁ := [_])) (List.Perm.cons _ (List.Perm.refl _))))))))))))))))))))))) ?_
  refine K.seq_sil (K.load1_own one_26 rfl (K.m0) rfl) rfl ?_
  refine zN ?_
  refine qp (K.len_sl sl_26 rfl) ?_
  refine K.seq_sil (K.load1_own one_3 rfl (K.m2) rfl) rfl ?_
  refine zN ?_
  refine qp (K.geq rfl rfl) ?_
  refine qa ?_
  refine sn ?_
  refine K.cond rfl (fun ht10 => ?_) (fun ht10 => ?_)
  · try replace ht10 := of_decide_eq_true ht10
    refine K.ret ?_
    refine K.ret_block ?_
    refine K.ret_then ?_
    refine K.end_ret (fun w _ => K.res_none rfl w) ?_
    have hfp : (fillP r (f + 1) cs l (best, fw)) = (best, fw) := fillP_cut (by simp only; omega) _
    exact K.retsU ((Q1, c1), (Q4, c4), (Q5, c5)) trivial rfl (by rw [hfp]; exact (List.Sublist.cons_cons _ (List.Sublist.cons_cons _ (List.Sublist.cons_cons _ (List.Sublist.cons_cons _ (List.Sublist.cons_cons _ (List.Sublist.cons_cons _ (List.Sublist.cons_cons _ (List.Sublist.cons_cons _ (List.Sublist.cons_cons _ (List.Sublist.cons_cons _ (List.Sublist.cons_cons _ (List.Sublist.cons _ (List.Sublist.refl _))))))))))))))
  try replace ht10 := of_decide_eq_false ht10
  refine sr ?_
  refine K.seq_sil (K.load1_own one_3 rfl (K.m11) rfl) rfl ?_
  refine zN ?_
  refine K.seq_sil (K.load1_own one_22 rfl (K.m7) rfl) rfl ?_
  refine zN ?_
  refine qp (K.len_sl sl_22 rfl) ?_
  refine qp (K.eql rfl rfl) ?_
  refine qa ?_
  refine sn ?_
  refine K.cond_false (by exact congrArg Value.bool (decide_eq_false (by omega))) ?_
  refine sr ?_
  refine K.seq_sil (K.load1_own one_65 rfl (K.m8) rfl) rfl ?_
  refine zN ?_
  refine K.seq_sil (K.load1_own one_3 rfl (K.m11) rfl) rfl ?_
  refine zN ?_
  refine K.seq_call (K.call_g cal_68 (fun F w hF hw => c68 (K.PtrL.now hw (hF _ (K.m10))) (K.blk_lt hw (hF _ (K.m10))) (hR.pass hw) g (by omega))) rfl ?_
  refine zN ?_
  refine qa ?_
  refine sn ?_
  refine K.cond rfl (fun ht24 => ?_) (fun ht24 => ?_)
  · try replace ht24 := of_decide_eq_true ht24
    refine sr ?_
    refine K.seq_sil (K.load1_own one_26 rfl (K.m3) rfl) rfl ?_
    refine zN ?_
    refine K.seq_new (K.buildSlice (bs1 _)) rfl ?_
    intro b29
    refine zN ?_
    refine K.seq_upd (K.append el_26 rfl rfl (K.PtrL.own' (K.m0)) rfl rfl (by decide) (by omega) (by omega) (fun _ _ => K.rp5)) rfl ?_
    rintro ⟨g30, c30⟩ _
    refine zN ?_
    refine K.seq_st (K.store sz_26 rfl rfl rfl rfl (K.rp4)) rfl ?_
    refine zN ?_
    refine sn ?_
    refine K.seq ?_
    refine K.weak (List.Sublist.cons _ (List.Sublist.cons_cons _ (List.Sublist.cons_cons _ (List.Sublist.cons_cons _ (List.Sublist.cons_cons _ (List.Sublist.cons_cons _ (List.Sublist.cons_cons _ (List.Sublist.cons_cons _ (List.Sublist.cons_cons _ (List.Sublist.cons_cons _ (List.Sublist.cons_cons _ (List.Sublist.cons_cons _ (List.Sublist.cons_cons _ (List.Sublist.refl _)))))))))))))) ?_
    refine K.region_lit ?_
    refine K.seq_sil (K.load1_own one_86 rfl (K.m9) rfl) rfl ?_
    refine zN ?_
    refine K.seq_sil (K.load1_own one_3 rfl (K.m11) rfl) rfl ?_
    refine zN ?_
    refine qp (K.add_i64 rfl rfl (by omega)) ?_
    refine K.seq_upd (K.callU (first := []) (cap := [.pointer (some ⟨p1, 0, none⟩), .pointer (some ⟨p2, 0, none⟩), .pointer (some ⟨p3, 0, none⟩), .pointer (some ⟨p4, 0, none⟩), .pointer (some ⟨p5, 0, none⟩), .pointer (some ⟨p6, 0, none⟩), .pointer (some ⟨p7, 0, none⟩)]) rfl cal_66 (fun w hw => IH (cs := cs) (l := (l ++ [-1])) (i := l.length + 1) (T := K.blk b8 3 [.int .i64 (l.length : Int)] :: T) hw rfl rfl (by rw [List.length_append]; rfl) eI_snoc (hcs.up) (by omega))) rfl ?_
    rintro ⟨⟨Q1b, c1b⟩, ⟨Q4b, c4b⟩, Q5b, c5b⟩ _
    refine zN ?_
    refine sn ?_
    refine K.seq ?_
    refine K.use_rowc (A := Q4b) K.m4 (fun _ hc4 => ?_)
    refine K.region_lit ?_
    refine K.seq_sil (K.load1_own one_26 rfl (K.m3) rfl) rfl ?_
    refine zN ?_
    refine K.seq_sil (K.load1_own one_3 rfl (K.m11) rfl) rfl ?_
    refine zN ?_
    refine K.seq_pure (K.slice_hi l.length sl_26 rfl rfl rfl (by omega)) rfl ?_
    refine zN ?_
    refine K.seq_st (K.store sz_26 rfl rfl rfl rfl (K.rp3)) rfl ?_
    refine zN ?_
    refine sn ?_
    refine K.ret ?_
    refine K.ret_block ?_
    refine K.ret_then ?_
    refine K.end_ret (fun w _ => K.res_none rfl w) ?_
    have hfp : (fillP r (f + 1) cs l (best, fw)) = (fillP r f cs (l ++ [-1]) (best, fw)) := fillP_out (by simp only; omega) ht24
    refine K.row_pop K.rp4 eI_len ?_
    exact K.retsU ((Q1b, c1b), (Q4b, c4b), (Q5b, c5b)) trivial rfl (by rw [hfp]; exact (List.Sublist.cons_cons _ (List.Sublist.cons_cons _ (List.Sublist.cons_cons _ (List.Sublist.cons_cons _ (List.Sublist.cons_cons _ (List.Sublist.cons_cons _ (List.Sublist.cons_cons _ (List.Sublist.cons_cons _ (List.Sublist.cons_cons _ (List.Sublist.cons_cons _ (List.Sublist.cons_cons _ (List.Sublist.cons _ (List.Sublist.refl _))))))))))))))
  try replace ht24 := of_decide_eq_false ht24
  refine K.skip ?_
  refine K.norm_block ?_
  refine K.norm_then ?_
  refine sr ?_
  refine K.seq_sil (K.load1_own one_26 rfl (K.m0) rfl) rfl ?_
  refine zN ?_
  refine qp (K.len_sl sl_26 rfl) ?_
  refine qp (K.add_i64 rfl rfl (by omega)) ?_
  refine qm ?_
  refine sn ?_
  refine K.block ?_
  refine K.loopW [41] [9, 42, 43, 44, 45, 46, 47, 48, 49, 50, 51, 52, 53, 54, 55, 56, 57, 58, 59, 60, 61, 62, 63, 64, 65, 66, 67, 68, 69, 70, 71, 72, 73, 74, 75, 76, 77, 78, 79, 80, 81, 82, 83, 84, 85, 86, 87, 88, 89, 90, 91, 92, 93, 94] (fun vi L => ∃ (n : Nat) (R1 R4 R5 : Option Addr) (d1 d4 d5 : Nat), vi = [.int .i64 (n : Int)] ∧ L = K.blk p1 26 [.slice R1 cs.length d1] :: K.row (.slice R1 cs.length d1) 3 1 cs.length (cs.flatMap K.eI) :: K.blk p2 3 [.int .i64 (loopP (fillP r f) r cs l (best, fw) n).2] :: K.blk p4 26 [.slice R4 l.length d4] :: K.row (.slice R4 l.length d4) 3 1 l.length (l.flatMap K.eI) :: K.blk p5 26 [.slice R5 (loopP (fillP r f) r cs l (best, fw) n).1.length d5] :: K.row (.slice R5 (loopP (fillP r f) r cs l (best, fw) n).1.length d5) 3 1 (loopP (fillP r f) r cs l (best, fw) n).1.length ((loopP (fillP r f) r cs l (best, fw) n).1.flatMap K.eI) :: K.blk p3 22 [.slice A r.length c] :: K.blk p6 65 [.pointer (some ⟨q, 0, none⟩)] :: K.blk p7 86 [.func (.func 66) #[] #[.pointer (some ⟨p1, 0, none⟩), .pointer (some ⟨p2, 0, none⟩), .pointer (some ⟨p3, 0, none⟩), .pointer (some ⟨p4, 0, none⟩), .pointer (some ⟨p5, 0, none⟩), .pointer (some ⟨p6, 0, none⟩), .pointer (some ⟨p7, 0, none⟩)]] :: K.blk q 79 (.slice A r.length c :: dcell (drT r)) :: K.blk b8 3 [.int .i64 (l.length : Int)] :: T ∧ n ≤ cs.length + 1) (fun vi => cs.length + 1 - (intOf (K.nth vi 0)).toNat) ?_ ?_
  · exact ⟨0, Q1, Q4, Q5, c1, c4, c5, rfl, rfl, Nat.zero_le _⟩
  intro vi vr L hJ
  obtain ⟨n, R1, R4, R5, d1, d4, d5, rfl, rfl, hnn⟩ := hJ
  try dsimp only [setd, setn, ev, nth, over, cl, eI, eP, eT, eR, setM, setF, List.map, List.append, List.drop, List.take]
  refine sr ?_
  refine qp (K.lss rfl rfl) ?_
  refine sn ?_
  refine K.seq ?_
  refine K.cond rfl (fun ht42 => ?_) (fun ht42 => ?_)
  · try replace ht42 := of_decide_eq_true ht42
    have hnl : n ≤ cs.length := by omega
    refine K.skip ?_
    refine K.norm_then ?_
    refine K.seq ?_
    refine K.block ?_
    refine sr ?_
    refine qm ?_
    refine qa ?_
    refine sn ?_
    refine K.seqJ [] [44, 45, 46, 47, 48, 49, 50] (fun vi L => vi = [] ∧ ∃ (R1 : Option Addr) (d1 : Nat), L = K.blk p1 26 [.slice R1 (chX cs n).length d1] :: K.row (.slice R1 (chX cs n).length d1) 3 1 (chX cs n).length ((chX cs n).flatMap K.eI) :: K.blk p2 3 [.int .i64 (loopP (fillP r f) r cs l (best, fw) n).2] :: K.blk p4 26 [.slice R4 l.length d4] :: K.row (.slice R4 l.length d4) 3 1 l.length (l.flatMap K.eI) :: K.blk p5 26 [.slice R5 (loopP (fillP r f) r cs l (best, fw) n).1.length d5] :: K.row (.slice R5 (loopP (fillP r f) r cs l (best, fw) n).1.length d5) 3 1 (loopP (fillP r f) r cs l (best, fw) n).1.length ((loopP (fillP r f) r cs l (best, fw) n).1.flatMap K.eI) :: K.blk p3 22 [.slice A r.length c] :: K.blk p6 65 [.pointer (some ⟨q, 0, none⟩)] :: K.blk p7 86 [.func (.func 66) #[] #[.pointer (some ⟨p1, 0, none⟩), .pointer (some ⟨p2, 0, none⟩), .pointer (some ⟨p3, 0, none⟩), .pointer (some ⟨p4, 0, none⟩), .pointer (some ⟨p5, 0, none⟩), .pointer (some ⟨p6, 0, none⟩), .pointer (some ⟨p7, 0, none⟩)]] :: K.blk q 79 (.slice A r.length c :: dcell (drT r)) :: K.blk b8 3 [.int .i64 (l.length : Int)] :: T) ?_ ?_
    · refine sr ?_
      refine qm ?_
      refine K.seq_sil (K.load1_own one_26 rfl (K.m0) rfl) rfl ?_
      refine zN ?_
      refine qp (K.len_sl sl_26 rfl) ?_
      refine qp (K.eql rfl rfl) ?_
      refine sn ?_
      refine K.cond rfl (fun ht47 => ?_) (fun ht47 => ?_)
      · try replace ht47 := of_decide_eq_true ht47
        refine K.region_lit ?_
        refine K.seq_sil (K.load1_own one_26 rfl (K.m0) rfl) rfl ?_
        refine zN ?_
        refine K.seq_new (K.buildSlice (bs1 _)) rfl ?_
        intro b49
        refine zN ?_
        refine K.seq_upd (K.append el_26 rfl rfl (K.PtrL.own' (K.m0)) rfl rfl (by decide) (by omega) (by omega) (fun _ _ => K.rp2)) rfl ?_
        rintro ⟨g50, c50⟩ _
        refine zN ?_
        refine K.seq_st (K.store sz_26 rfl rfl rfl rfl (K.rp1)) rfl ?_
        refine zN ?_
        refine K.seq_nil ?_
        have e0 : n = cs.length := by omega
        have ex : chX cs n = cs ++ [0] := by unfold chX; rw [if_pos e0]
        have el : (chX cs n).length = cs.length + 1 := by rw [ex, List.length_append]; rfl
        have ef : (chX cs n).flatMap K.eI = cs.flatMap K.eI ++ [.int .i64 0] := by rw [ex]; exact eI_snoc.symm
        exact K.join_here (L' := K.blk p1 26 [.slice (some ⟨g50, 0, none⟩) (cs.length + 1) c50] :: K.row (.slice (some ⟨g50, 0, none⟩) (cs.length + 1) c50) 3 1 (cs.length + 1) (cs.flatMap K.eI ++ [.int .i64 0]) :: K.blk p2 3 [.int .i64 (loopP (fillP r f) r cs l (best, fw) n).2] :: K.blk p4 26 [.slice R4 l.length d4] :: K.row (.slice R4 l.length d4) 3 1 l.length (l.flatMap K.eI) :: K.blk p5 26 [.slice R5 (loopP (fillP r f) r cs l (best, fw) n).1.length d5] :: K.row (.slice R5 (loopP (fillP r f) r cs l (best, fw) n).1.length d5) 3 1 (loopP (fillP r f) r cs l (best, fw) n).1.length ((loopP (fillP r f) r cs l (best, fw) n).1.flatMap K.eI) :: K.blk p3 22 [.slice A r.length c] :: K.blk p6 65 [.pointer (some ⟨q, 0, none⟩)] :: K.blk p7 86 [.func (.func 66) #[] #[.pointer (some ⟨p1, 0, none⟩), .pointer (some ⟨p2, 0, none⟩), .pointer (some ⟨p3, 0, none⟩), .pointer (some ⟨p4, 0, none⟩), .pointer (some ⟨p5, 0, none⟩), .pointer (some ⟨p6, 0, none⟩), .pointer (some ⟨p7, 0, none⟩)]] :: K.blk q 79 (.slice A r.length c :: dcell (drT r)) :: K.blk b8 3 [.int .i64 (l.length : Int)] :: T) [] ⟨rfl, some ⟨g50, 0, none⟩, c50, by rw [el, ef]⟩ (K.st_sub ((List.Sublist.cons _ (List.Sublist.refl _)))) (by kernel_rfl)
      try replace ht47 := of_decide_eq_false ht47
      refine K.skip ?_
      have e0 : n < cs.length := by omega
      have ex : chX cs n = cs := chX_old e0
      exact K.join_here (L' := K.blk p1 26 [.slice R1 cs.length d1] :: K.row (.slice R1 cs.length d1) 3 1 cs.length (cs.flatMap K.eI) :: K.blk p2 3 [.int .i64 (loopP (fillP r f) r cs l (best, fw) n).2] :: K.blk p4 26 [.slice R4 l.length d4] :: K.row (.slice R4 l.length d4) 3 1 l.length (l.flatMap K.eI) :: K.blk p5 26 [.slice R5 (loopP (fillP r f) r cs l (best, fw) n).1.length d5] :: K.row (.slice R5 (loopP (fillP r f) r cs l (best, fw) n).1.length d5) 3 1 (loopP (fillP r f) r cs l (best, fw) n).1.length ((loopP (fillP r f) r cs l (best, fw) n).1.flatMap K.eI) :: K.blk p3 22 [.slice A r.length c] :: K.blk p6 65 [.pointer (some ⟨q, 0, none⟩)] :: K.blk p7 86 [.func (.func 66) #[] #[.pointer (some ⟨p1, 0, none⟩), .pointer (some ⟨p2, 0, none⟩), .pointer (some ⟨p3, 0, none⟩), .pointer (some ⟨p4, 0, none⟩), .pointer (some ⟨p5, 0, none⟩), .pointer (some ⟨p6, 0, none⟩), .pointer (some ⟨p7, 0, none⟩)]] :: K.blk q 79 (.slice A r.length c :: dcell (drT r)) :: K.blk b8 3 [.int .i64 (l.length : Int)] :: T) [] ⟨rfl, R1, d1, by rw [ex]⟩ (K.st_sub ((List.Sublist.refl _))) (by kernel_rfl)
    intro vi vr L hJ
    obtain ⟨rfl, R1, d1, rfl⟩ := hJ
    try dsimp only [setd, setn, ev, nth, over, cl, eI, eP, eT, eR, setM, setF, List.map, List.append, List.drop, List.take]
    refine K.seqJ [] [51, 52, 53, 54, 55, 56, 57, 58, 59, 60, 61, 62, 63, 64, 65, 66, 67, 68, 69, 70, 71, 72, 73, 74, 75, 76, 77, 78, 79, 80, 81, 82, 83, 84, 85] (fun vi L => vi = [] ∧ ∃ (R1 R4 R5 : Option Addr) (d1 d4 d5 : Nat), L = K.blk p1 26 [.slice R1 (chX cs n).length d1] :: K.row (.slice R1 (chX cs n).length d1) 3 1 (chX cs n).length ((chX cs n).flatMap K.eI) :: K.blk p2 3 [.int .i64 (loopP (fillP r f) r cs l (best, fw) (n + 1)).2] :: K.blk p4 26 [.slice R4 l.length d4] :: K.row (.slice R4 l.length d4) 3 1 l.length (l.flatMap K.eI) :: K.blk p5 26 [.slice R5 (loopP (fillP r f) r cs l (best, fw) (n + 1)).1.length d5] :: K.row (.slice R5 (loopP (fillP r f) r cs l (best, fw) (n + 1)).1.length d5) 3 1 (loopP (fillP r f) r cs l (best, fw) (n + 1)).1.length ((loopP (fillP r f) r cs l (best, fw) (n + 1)).1.flatMap K.eI) :: K.blk p3 22 [.slice A r.length c] :: K.blk p6 65 [.pointer (some ⟨q, 0, none⟩)] :: K.blk p7 86 [.func (.func 66) #[] #[.pointer (some ⟨p1, 0, none⟩), .pointer (some ⟨p2, 0, none⟩), .pointer (some ⟨p3, 0, none⟩), .pointer (some ⟨p4, 0, none⟩), .pointer (some ⟨p5, 0, none⟩), .pointer (some ⟨p6, 0, none⟩), .pointer (some ⟨p7, 0, none⟩)]] :: K.blk q 79 (.slice A r.length c :: dcell (drT r)) :: K.blk b8 3 [.int .i64 (l.length : Int)] :: T) ?_ ?_
    · refine K.seq ?_
      refine K.use_row (A := R1) K.m1 (fun hR1 => ?_)
      have hchb := chX_bd hcs hnl
      have hcn := ch_nat hcs hnl
      have hlt := chX_lt hnl
      have hxl := chX_le hnl
      have hpw := pow_bd (n := l.length) (by omega)
      have hch9 : ((chX cs n).getD n default) ≤ 511 := by have := pow_cast (i := l.length); omega
      obtain ⟨gb, rfl⟩ : ∃ gb, R1 = some ⟨gb, 0, none⟩ := by
        rcases hR1 with h | h
        · omega
        · exact h
      have hcv := eI_at0 (xs := (chX cs n)) (k := n) hlt
      refine K.region_lit ?_
      refine K.seq_sil (K.load1_own one_26 rfl (K.m0) rfl) rfl ?_
      refine zN ?_
      refine qm ?_
      refine K.seq_pure (K.Pure.eq (K.indexAddr_sl sl_26 rfl rfl (by omega) (by omega)) (show _ = Value.pointer (some ⟨gb, 0 + n * 1, none⟩) from by rw [K.add_lit, Int.toNat_natCast])) rfl ?_
      refine zN ?_
      refine zN ?_
      refine K.seq_sil (K.load_at one_3 rfl ((K.Sl.ptr (K.Sl.of_row' (t := 3) (c := d1) (n := (chX cs n).length) (e := K.eI) (xs := (chX cs n)) (.inr ⟨gb, rfl⟩) rfl (fun _ => rfl) rfl) (fun _ => rfl) (by decide)).at1 (K.m1)) hcv) rfl ?_
      refine zN ?_
      refine K.seq_loud (K.call_f cal_60 (fun F w hF hw => c60 (hT.pass hw) ⟨hchb.1, hch9⟩)) rfl ?_
      rintro ⟨Q6, q6⟩ hq6
      refine zN ?_
      refine K.seq_pure (K.mkFunc) rfl ?_
      refine zN ?_
      refine K.seq_call (K.call_g cal_69 (fun F w hF hw => (by have hX := (K.Rd.own (e := K.eI) (xs := (bitsL ((chX cs n).getD n default))) hw (hF _ (K.m0)) hq6 (fun _ => rfl) (by decide)); have hbl := bits_len (x := ((chX cs n).getD n default)); exact c69 (cap := [.pointer (some ⟨p6, 0, none⟩), .pointer (some ⟨b8, 0, none⟩)]) (p := fun k => !conS r l.length k.toNat) hX (by omega) cal_70 (fun x hx w1 hb => by have hxb := ch_bits hchb.1 hchb.2 hx; have hg := c70 (i := l.length) (k := x.toNat) (K.PtrL.pass hw (hF _ (K.m9)) hb) (K.PtrL.pass hw (hF _ (K.m12)) hb) (K.PtrL.pass hw (hF _ (K.m11)) hb) (Nat.lt_of_lt_of_le (K.blk_lt hw (hF _ (K.m11))) hb.size) ((hR.pass hw).later hb) g (by omega) (by omega); rw [Int.toNat_of_nonneg hxb.1] at hg; exact hg)))) rfl ?_
      refine zN ?_
      first | refine K.seq_pure (K.not_d rfl) rfl ?_ | refine K.seq_pure (K.not_ rfl) rfl ?_
      refine zN ?_
      refine sn ?_
      refine K.cond rfl (fun ht58 => ?_) (fun ht58 => ?_)
      · try replace ht58 := of_decide_eq_true ht58
        refine K.seq ?_
        have hok : okP r l.length ((chX cs n).getD n default) = true := ht58
        have hfit : 0 + n * 1 + 1 ≤ ((chX cs n).flatMap K.eI).length := by rw [eI_len]; omega
        have hset : K.over ((chX cs n).flatMap K.eI) (0 + n * 1) (K.cl (.int .i64 ((((chX cs n).getD n default).toNat ||| 2 ^ l.length : Nat) : Int))) = (setX cs n l.length).flatMap K.eI := K.set_cut0 (e := K.eI) (size := 1) (k := n) (xs := (chX cs n)) (x := ((((chX cs n).getD n default).toNat ||| 2 ^ l.length : Nat) : Int)) (fun _ => rfl) hlt
        have hor := or_pow hcn
        refine K.weak (List.Sublist.cons _ (List.Sublist.cons_cons _ (List.Sublist.cons_cons _ (List.Sublist.cons_cons _ (List.Sublist.cons_cons _ (List.Sublist.cons_cons _ (List.Sublist.cons_cons _ (List.Sublist.cons_cons _ (List.Sublist.cons_cons _ (List.Sublist.cons_cons _ (List.Sublist.cons_cons _ (List.Sublist.cons_cons _ (List.Sublist.cons_cons _ (List.Sublist.refl _)))))))))))))) ?_
        refine K.draw_L [8] Tryd_mixed ?_
        refine K.d_mem 0 rfl (K.load1_own one_26 rfl (K.m0) rfl) (fun _ h => h) (by kernel_rfl) (by kernel_rfl) rfl ?_
        refine zN ?_
        refine K.d_pure 1 rfl (K.move) (by kernel_rfl) rfl ?_
        refine zn ?_
        refine K.d_pure 2 rfl (K.Pure.eq (K.indexAddr_sl sl_26 rfl rfl (by omega) (by omega)) (show _ = Value.pointer (some ⟨gb, 0 + n * 1, none⟩) from by rw [K.add_lit, Int.toNat_natCast])) (by kernel_rfl) rfl ?_
        refine zN ?_
        refine zN ?_
        refine K.d_mem 3 rfl (K.load_at one_3 rfl ((K.Sl.ptr (K.Sl.of_row' (t := 3) (c := d1) (n := (chX cs n).length) (e := K.eI) (xs := (chX cs n)) (.inr ⟨gb, rfl⟩) rfl (fun _ => rfl) rfl) (fun _ => rfl) (by decide)).at1 (K.m1)) hcv) (fun _ h => h) (by kernel_rfl) (by kernel_rfl) rfl ?_
        refine zN ?_
        refine K.d_mem 4 rfl (K.load1_own one_3 rfl (K.m11) rfl) (fun _ h => h) (by kernel_rfl) (by kernel_rfl) rfl ?_
        refine zN ?_
        refine K.d_pure 5 rfl (K.Pure.eq (K.shl_int rfl rfl (by omega)) (show _ = Value.int .i64 ((2 ^ l.length : Nat) : Int) from by rw [shl_val (by omega)])) (by kernel_rfl) rfl ?_
        refine zn ?_
        refine K.d_pure 6 rfl (K.Pure.eq (K.or_int rfl rfl) (show _ = Value.int .i64 ((((chX cs n).getD n default).toNat ||| 2 ^ l.length : Nat) : Int) from by rw [← or_nat (by omega) (by omega), Int.toNat_of_nonneg hchb.1])) (by kernel_rfl) rfl ?_
        refine zn ?_
        refine K.d_pure 7 rfl (K.Pure.eq (K.indexAddr_sl sl_26 rfl rfl (by omega) (by omega)) (show _ = Value.pointer (some ⟨gb, 0 + n * 1, none⟩) from by rw [K.add_lit, Int.toNat_natCast])) (by kernel_rfl) rfl ?_
        refine zN ?_
        refine zN ?_
        refine K.d_last 8 rfl (K.store_row (xs := (chX cs n).flatMap K.eI) (j := 0 + n * 1) sz_3 rfl rfl hfit rfl (K.rpe K.rp1 (show K.row (.slice (some ⟨gb, 0, none⟩) (chX cs n).length d1) 3 1 (chX cs n).length ((setX cs n l.length).flatMap K.eI) = K.row (.slice (some ⟨gb, 0, none⟩) (chX cs n).length d1) 3 1 (chX cs n).length (K.over ((chX cs n).flatMap K.eI) (0 + n * 1) _) from congrArg (K.row (.slice (some ⟨gb, 0, none⟩) (chX cs n).length d1) 3 1 (chX cs n).length) hset.symm))) rfl (by kernel_rfl) rfl ?_
        intro _ _
        refine zN ?_
        refine zN ?_
        refine K.d_done (by kernel_rfl) ?_
        refine K.norm_then ?_
        refine sr ?_
        refine K.seq_sil (K.load1_own one_26 rfl (K.m3) rfl) rfl ?_
        refine zN ?_
        refine qm ?_
        refine K.seq_new (K.buildSlice (bs1 _)) rfl ?_
        intro b69
        refine zN ?_
        refine K.seq_upd (K.append el_26 rfl rfl (K.PtrL.own' (K.m0)) rfl rfl (by decide) (by omega) (by omega) (fun _ _ => K.rp5)) rfl ?_
        rintro ⟨g70, c70⟩ _
        refine zN ?_
        refine K.seq_st (K.store sz_26 rfl rfl rfl rfl (K.rp4)) rfl ?_
        refine zN ?_
        refine sn ?_
        refine K.seq ?_
        refine K.weak (List.Sublist.cons _ (List.Sublist.cons_cons _ (List.Sublist.cons_cons _ (List.Sublist.cons_cons _ (List.Sublist.cons_cons _ (List.Sublist.cons_cons _ (List.Sublist.cons_cons _ (List.Sublist.cons_cons _ (List.Sublist.cons_cons _ (List.Sublist.cons_cons _ (List.Sublist.cons_cons _ (List.Sublist.cons_cons _ (List.Sublist.cons_cons _ (List.Sublist.refl _)))))))))))))) ?_
        refine K.region_lit ?_
        refine K.seq_sil (K.load1_own one_86 rfl (K.m9) rfl) rfl ?_
        refine zN ?_
        refine K.seq_sil (K.load1_own one_3 rfl (K.m11) rfl) rfl ?_
        refine zN ?_
        refine qp (K.add_i64 rfl rfl (by omega)) ?_
        refine K.seq_upd (K.callU (first := []) (cap := [.pointer (some ⟨p1, 0, none⟩), .pointer (some ⟨p2, 0, none⟩), .pointer (some ⟨p3, 0, none⟩), .pointer (some ⟨p4, 0, none⟩), .pointer (some ⟨p5, 0, none⟩), .pointer (some ⟨p6, 0, none⟩), .pointer (some ⟨p7, 0, none⟩)]) rfl cal_66 (fun w hw => IH (cs := (setX cs n l.length)) (l := (l ++ [(n : Int)])) (i := l.length + 1) (T := K.blk b8 3 [.int .i64 (l.length : Int)] :: T) hw setX_len.symm rfl (by rw [List.length_append]; rfl) eI_snoc (setX_ok hcs hnl) (by omega))) rfl ?_
        rintro ⟨⟨Q1b, c1b⟩, ⟨Q4b, c4b⟩, Q5b, c5b⟩ _
        refine zN ?_
        refine sn ?_
        refine K.seq ?_
        refine K.use_rowc (A := Q4b) K.m4 (fun _ hc4 => ?_)
        refine K.region_lit ?_
        refine K.seq_sil (K.load1_own one_26 rfl (K.m3) rfl) rfl ?_
        refine zN ?_
        refine K.seq_sil (K.load1_own one_3 rfl (K.m11) rfl) rfl ?_
        refine zN ?_
        refine K.seq_pure (K.slice_hi l.length sl_26 rfl rfl rfl (by omega)) rfl ?_
        refine zN ?_
        refine K.seq_st (K.store sz_26 rfl rfl rfl rfl (K.rp3)) rfl ?_
        refine zN ?_
        refine sn ?_
        refine K.row_pop K.rp4 eI_len ?_
        refine K.use_row (A := Q1b) K.m1 (fun hR2 => ?_)
        obtain ⟨gc, rfl⟩ : ∃ gc, Q1b = some ⟨gc, 0, none⟩ := by
          rcases hR2 with h | h
          · omega
          · exact h
        have hsl2 : (setX cs n l.length).length = (chX cs n).length := setX_len
        have hcv2 := eI_at0 (xs := (setX cs n l.length)) (k := n) (by omega)
        rw [setX_at hnl] at hcv2
        have hfit2 : 0 + n * 1 + 1 ≤ ((setX cs n l.length).flatMap K.eI).length := by rw [eI_len]; omega
        have hset2 : K.over ((setX cs n l.length).flatMap K.eI) (0 + n * 1) (K.cl (.int .i64 ((chX cs n).getD n default))) = (chX cs n).flatMap K.eI := by
          have h := K.set_cut0 (e := K.eI) (size := 1) (k := n) (xs := (setX cs n l.length)) (x := ((chX cs n).getD n default)) (fun _ => rfl) (by omega)
          rw [setX_back hnl] at h
          exact h
        refine K.draw_L [8] Tryd_mixed ?_
        refine K.d_mem 0 rfl (K.load1_own one_26 rfl (K.m0) rfl) (fun _ h => h) (by kernel_rfl) (by kernel_rfl) rfl ?_
        refine zN ?_
        refine K.d_pure 1 rfl (K.move) (by kernel_rfl) rfl ?_
        refine zn ?_
        refine K.d_pure 2 rfl (K.Pure.eq (K.indexAddr_sl sl_26 rfl rfl (by omega) (by omega)) (show _ = Value.pointer (some ⟨gc, 0 + n * 1, none⟩) from by rw [K.add_lit, Int.toNat_natCast])) (by kernel_rfl) rfl ?_
        refine zN ?_
        refine zN ?_
        refine K.d_mem 3 rfl (K.load_at one_3 rfl ((K.Sl.ptr (K.Sl.of_row' (t := 3) (c := c1b) (n := (chX cs n).length) (e := K.eI) (xs := (setX cs n l.length)) (.inr ⟨gc, rfl⟩) hsl2 (fun _ => rfl) rfl) (fun _ => rfl) (by decide)).at1 (K.m1)) hcv2) (fun _ h => h) (by kernel_rfl) (by kernel_rfl) rfl ?_
        refine zN ?_
        refine K.d_mem 4 rfl (K.load1_own one_3 rfl (K.m11) rfl) (fun _ h => h) (by kernel_rfl) (by kernel_rfl) rfl ?_
        refine zN ?_
        refine K.d_pure 5 rfl (K.Pure.eq (K.shl_int rfl rfl (by omega)) (show _ = Value.int .i64 ((2 ^ l.length : Nat) : Int) from by rw [shl_val (by omega)])) (by kernel_rfl) rfl ?_
        refine zn ?_
        refine K.d_pure 6 rfl (K.Pure.eq (K.andnot_int rfl rfl) (show _ = Value.int .i64 ((chX cs n).getD n default) from by rw [andnot_val (by omega) hcn, Int.toNat_of_nonneg hchb.1])) (by kernel_rfl) rfl ?_
        refine zn ?_
        refine K.d_pure 7 rfl (K.Pure.eq (K.indexAddr_sl sl_26 rfl rfl (by omega) (by omega)) (show _ = Value.pointer (some ⟨gc, 0 + n * 1, none⟩) from by rw [K.add_lit, Int.toNat_natCast])) (by kernel_rfl) rfl ?_
        refine zN ?_
        refine zN ?_
        refine K.d_last 8 rfl (K.store_row (xs := (setX cs n l.length).flatMap K.eI) (j := 0 + n * 1) sz_3 rfl rfl hfit2 rfl (K.rpe K.rp1 (show K.row (.slice (some ⟨gc, 0, none⟩) (chX cs n).length c1b) 3 1 (chX cs n).length ((chX cs n).flatMap K.eI) = K.row (.slice (some ⟨gc, 0, none⟩) (chX cs n).length c1b) 3 1 (chX cs n).length (K.over ((setX cs n l.length).flatMap K.eI) (0 + n * 1) _) from congrArg (K.row (.slice (some ⟨gc, 0, none⟩) (chX cs n).length c1b) 3 1 (chX cs n).length) hset2.symm))) rfl (by kernel_rfl) rfl ?_
        intro _ _
        refine zN ?_
        refine zN ?_
        refine K.d_done (by kernel_rfl) ?_
        have es : (loopP (fillP r f) r cs l (best, fw) (n + 1)) = fillP r f (setX cs n l.length) (l ++ [(n : Int)]) (loopP (fillP r f) r cs l (best, fw) n) := loopP_yes hok
        exact K.join_here (L' := K.blk p1 26 [.slice (some ⟨gc, 0, none⟩) (chX cs n).length c1b] :: K.row (.slice (some ⟨gc, 0, none⟩) (chX cs n).length c1b) 3 1 (chX cs n).length ((chX cs n).flatMap K.eI) :: K.blk p2 3 [.int .i64 (fillP r f (setX cs n l.length) (l ++ [(n : Int)]) (loopP (fillP r f) r cs l (best, fw) n)).2] :: K.blk p4 26 [.slice Q4b l.length c4b] :: K.row (.slice Q4b l.length c4b) 3 1 l.length (l.flatMap K.eI) :: K.blk p5 26 [.slice Q5b (fillP r f (setX cs n l.length) (l ++ [(n : Int)]) (loopP (fillP r f) r cs l (best, fw) n)).1.length c5b] :: K.row (.slice Q5b (fillP r f (setX cs n l.length) (l ++ [(n : Int)]) (loopP (fillP r f) r cs l (best, fw) n)).1.length c5b) 3 1 (fillP r f (setX cs n l.length) (l ++ [(n : Int)]) (loopP (fillP r f) r cs l (best, fw) n)).1.length ((fillP r f (setX cs n l.length) (l ++ [(n : Int)]) (loopP (fillP r f) r cs l (best, fw) n)).1.flatMap K.eI) :: K.blk p3 22 [.slice A r.length c] :: K.blk p6 65 [.pointer (some ⟨q, 0, none⟩)] :: K.blk p7 86 [.func (.func 66) #[] #[.pointer (some ⟨p1, 0, none⟩), .pointer (some ⟨p2, 0, none⟩), .pointer (some ⟨p3, 0, none⟩), .pointer (some ⟨p4, 0, none⟩), .pointer (some ⟨p5, 0, none⟩), .pointer (some ⟨p6, 0, none⟩), .pointer (some ⟨p7, 0, none⟩)]] :: K.blk q 79 (.slice A r.length c :: dcell (drT r)) :: K.blk b8 3 [.int .i64 (l.length : Int)] :: T) [] ⟨rfl, some ⟨gc, 0, none⟩, Q4b, Q5b, c1b, c4b, c5b, by rw [es]⟩ (K.st_sub ((List.Sublist.refl _))) (by kernel_rfl)
      try replace ht58 := of_decide_eq_false ht58
      refine K.skip ?_
      have hok : okP r l.length ((chX cs n).getD n default) = false := ht58
      have es : (loopP (fillP r f) r cs l (best, fw) (n + 1)) = (loopP (fillP r f) r cs l (best, fw) n) := loopP_no hok
      exact K.join_here (L' := K.blk p1 26 [.slice (some ⟨gb, 0, none⟩) (chX cs n).length d1] :: K.row (.slice (some ⟨gb, 0, none⟩) (chX cs n).length d1) 3 1 (chX cs n).length ((chX cs n).flatMap K.eI) :: K.blk p2 3 [.int .i64 (loopP (fillP r f) r cs l (best, fw) n).2] :: K.blk p4 26 [.slice R4 l.length d4] :: K.row (.slice R4 l.length d4) 3 1 l.length (l.flatMap K.eI) :: K.blk p5 26 [.slice R5 (loopP (fillP r f) r cs l (best, fw) n).1.length d5] :: K.row (.slice R5 (loopP (fillP r f) r cs l (best, fw) n).1.length d5) 3 1 (loopP (fillP r f) r cs l (best, fw) n).1.length ((loopP (fillP r f) r cs l (best, fw) n).1.flatMap K.eI) :: K.blk p3 22 [.slice A r.length c] :: K.blk p6 65 [.pointer (some ⟨q, 0, none⟩)] :: K.blk p7 86 [.func (.func 66) #[] #[.pointer (some ⟨p1, 0, none⟩), .pointer (some ⟨p2, 0, none⟩), .pointer (some ⟨p3, 0, none⟩), .pointer (some ⟨p4, 0, none⟩), .pointer (some ⟨p5, 0, none⟩), .pointer (some ⟨p6, 0, none⟩), .pointer (some ⟨p7, 0, none⟩)]] :: K.blk q 79 (.slice A r.length c :: dcell (drT r)) :: K.blk b8 3 [.int .i64 (l.length : Int)] :: T) [] ⟨rfl, some ⟨gb, 0, none⟩, R4, R5, d1, d4, d5, by rw [es]⟩ (K.st_sub ((List.Sublist.cons _ (List.Sublist.refl _)))) (by kernel_rfl)
    intro vi vr L hJ
    obtain ⟨rfl, R1, R4, R5, d1, d4, d5, rfl⟩ := hJ
    try dsimp only [setd, setn, ev, nth, over, cl, eI, eP, eT, eR, setM, setF, List.map, List.append, List.drop, List.take]
    refine K.seq ?_
    have hchb := chX_bd hcs hnl
    have hcn := ch_nat hcs hnl
    have hlt := chX_lt hnl
    have hxl := chX_le hnl
    have hpw := pow_bd (n := l.length) (by omega)
    have hch9 : ((chX cs n).getD n default) ≤ 511 := by have := pow_cast (i := l.length); omega
    refine K.use_rowc (A := R1) K.m1 (fun hR3 hd1 => ?_)
    obtain ⟨gd, rfl⟩ : ∃ gd, R1 = some ⟨gd, 0, none⟩ := by
      rcases hR3 with h | h
      · omega
      · exact h
    have hcv := eI_at0 (xs := (chX cs n)) (k := n) hlt
    refine K.region_lit ?_
    refine K.seq_sil (K.load1_own one_26 rfl (K.m0) rfl) rfl ?_
    refine zN ?_
    refine qm ?_
    refine K.seq_pure (K.Pure.eq (K.indexAddr_sl sl_26 rfl rfl (by omega) (by omega)) (show _ = Value.pointer (some ⟨gd, 0 + n * 1, none⟩) from by rw [K.add_lit, Int.toNat_natCast])) rfl ?_
    refine zN ?_
    refine zN ?_
    refine K.seq_sil (K.load_at one_3 rfl ((K.Sl.ptr (K.Sl.of_row' (t := 3) (c := d1) (n := (chX cs n).length) (e := K.eI) (xs := (chX cs n)) (.inr ⟨gd, rfl⟩) rfl (fun _ => rfl) rfl) (fun _ => rfl) (by decide)).at1 (K.m1)) hcv) rfl ?_
    refine zN ?_
    refine qp (K.eql rfl rfl) ?_
    refine sn ?_
    refine K.cond rfl (fun ht90 => ?_) (fun ht90 => ?_)
    · try replace ht90 := of_decide_eq_true ht90
      refine K.region_lit ?_
      refine K.seq_sil (K.load1_own one_26 rfl (K.m0) rfl) rfl ?_
      refine zN ?_
      refine qm ?_
      refine K.seq_pure (K.slice_hi n sl_26 rfl rfl rfl (by omega)) rfl ?_
      refine zN ?_
      refine K.seq_st (K.store sz_26 rfl rfl rfl rfl (K.rp0)) rfl ?_
      refine zN ?_
      refine K.seq_nil ?_
      refine K.norm_block ?_
      refine K.norm_then ?_
      refine K.region_lit ?_
      refine qp (K.add_i64 rfl rfl (by omega)) ?_
      refine qm ?_
      refine K.seq_nil ?_
      have e0 : n = cs.length := (chX_zero hcs hnl).1 ht90
      subst e0
      have ex : chX cs cs.length = cs ++ [0] := by unfold chX; rw [if_pos rfl]
      have el : (chX cs cs.length).length = cs.length + 1 := by rw [ex, List.length_append]; rfl
      have ef : (chX cs cs.length).flatMap K.eI = cs.flatMap K.eI ++ [.int .i64 0] := by rw [ex]; exact eI_snoc.symm
      rw [el, ef]
      refine K.row_pop K.rp1 eI_len ?_
      exact K.round_endW (L'' := K.blk p1 26 [.slice (some ⟨gd, 0, none⟩) cs.length d1] :: K.row (.slice (some ⟨gd, 0, none⟩) cs.length d1) 3 1 cs.length (cs.flatMap K.eI) :: K.blk p2 3 [.int .i64 (loopP (fillP r f) r cs l (best, fw) (cs.length + 1)).2] :: K.blk p4 26 [.slice R4 l.length d4] :: K.row (.slice R4 l.length d4) 3 1 l.length (l.flatMap K.eI) :: K.blk p5 26 [.slice R5 (loopP (fillP r f) r cs l (best, fw) (cs.length + 1)).1.length d5] :: K.row (.slice R5 (loopP (fillP r f) r cs l (best, fw) (cs.length + 1)).1.length d5) 3 1 (loopP (fillP r f) r cs l (best, fw) (cs.length + 1)).1.length ((loopP (fillP r f) r cs l (best, fw) (cs.length + 1)).1.flatMap K.eI) :: K.blk p3 22 [.slice A r.length c] :: K.blk p6 65 [.pointer (some ⟨q, 0, none⟩)] :: K.blk p7 86 [.func (.func 66) #[] #[.pointer (some ⟨p1, 0, none⟩), .pointer (some ⟨p2, 0, none⟩), .pointer (some ⟨p3, 0, none⟩), .pointer (some ⟨p4, 0, none⟩), .pointer (some ⟨p5, 0, none⟩), .pointer (some ⟨p6, 0, none⟩), .pointer (some ⟨p7, 0, none⟩)]] :: K.blk q 79 (.slice A r.length c :: dcell (drT r)) :: K.blk b8 3 [.int .i64 (l.length : Int)] :: T) [.int .i64 ((cs.length : Int) + 1)] ⟨cs.length + 1, some ⟨gd, 0, none⟩, R4, R5, d1, d4, d5, rfl, rfl, by omega⟩ (by simp [K.nth, intOf] <;> omega) ((List.Sublist.refl _)) (by kernel_rfl)
    try replace ht90 := of_decide_eq_false ht90
    refine K.skip ?_
    refine K.norm_block ?_
    refine K.norm_then ?_
    refine K.region_lit ?_
    refine qp (K.add_i64 rfl rfl (by omega)) ?_
    refine qm ?_
    refine K.seq_nil ?_
    have e0 : n < cs.length := by
      rcases Nat.lt_or_ge n cs.length with h | h
      · exact h
      · exact absurd ((chX_zero hcs hnl).2 (by omega)) ht90
    rw [chX_old e0]
    exact K.round_endW (L'' := K.blk p1 26 [.slice (some ⟨gd, 0, none⟩) cs.length d1] :: K.row (.slice (some ⟨gd, 0, none⟩) cs.length d1) 3 1 cs.length (cs.flatMap K.eI) :: K.blk p2 3 [.int .i64 (loopP (fillP r f) r cs l (best, fw) (n + 1)).2] :: K.blk p4 26 [.slice R4 l.length d4] :: K.row (.slice R4 l.length d4) 3 1 l.length (l.flatMap K.eI) :: K.blk p5 26 [.slice R5 (loopP (fillP r f) r cs l (best, fw) (n + 1)).1.length d5] :: K.row (.slice R5 (loopP (fillP r f) r cs l (best, fw) (n + 1)).1.length d5) 3 1 (loopP (fillP r f) r cs l (best, fw) (n + 1)).1.length ((loopP (fillP r f) r cs l (best, fw) (n + 1)).1.flatMap K.eI) :: K.blk p3 22 [.slice A r.length c] :: K.blk p6 65 [.pointer (some ⟨q, 0, none⟩)] :: K.blk p7 86 [.func (.func 66) #[] #[.pointer (some ⟨p1, 0, none⟩), .pointer (some ⟨p2, 0, none⟩), .pointer (some ⟨p3, 0, none⟩), .pointer (some ⟨p4, 0, none⟩), .pointer (some ⟨p5, 0, none⟩), .pointer (some ⟨p6, 0, none⟩), .pointer (some ⟨p7, 0, none⟩)]] :: K.blk q 79 (.slice A r.length c :: dcell (drT r)) :: K.blk b8 3 [.int .i64 (l.length : Int)] :: T) [.int .i64 ((n : Int) + 1)] ⟨n + 1, some ⟨gd, 0, none⟩, R4, R5, d1, d4, d5, rfl, rfl, by omega⟩ (by simp [K.nth, intOf]; omega) ((List.Sublist.refl _)) (by kernel_rfl)
  try replace ht42 := of_decide_eq_false ht42
  refine K.exit ?_
  refine K.exit_then ?_
  refine K.exit_then ?_
  refine K.exit_here ?_
  refine K.end_normal (fun w _ => K.res_none rfl w) ?_
  have e0 : n = cs.length + 1 := by omega
  subst e0
  have hfp : (fillP r (f + 1) cs l (best, fw)) = (loopP (fillP r f) r cs l (best, fw) (cs.length + 1)) := fillP_loop (by simp only; omega) ht24
  exact K.retsU ((R1, d1), (R4, d4), (R5, d5)) trivial rfl (by rw [hfp]; exact (List.Sublist.cons_cons _ (List.Sublist.cons_cons _ (List.Sublist.cons_cons _ (List.Sublist.cons_cons _ (List.Sublist.cons_cons _ (List.Sublist.cons_cons _ (List.Sublist.cons_cons _ (List.Sublist.cons_cons _ (List.Sublist.cons_cons _ (List.Sublist.cons_cons _ (List.Sublist.cons_cons _ (List.Sublist.cons _ (List.Sublist.refl _))))))))))))))

theorem c66 {r : List RvT} {A : Option Addr} {c q : Nat} {p1 p2 p3 p4 p5 p6 p7 : Nat} {w0 : World} (hR : K.Rd w0 A 4 eR r) (hT : Tab w0) (g : Good r) : ∀ f, Go66 r A c q p1 p2 p3 p4 p5 p6 p7 f w0
  | 0 => fun h1 h2 h3 h4 h5 h6 h7 => c66_0 hR hT g h1 h2 h3 h4 h5 h6 h7
  | f + 1 => fun h1 h2 h3 h4 h5 h6 h7 => c66_s hR hT g (c66 hR hT g f) h1 h2 h3 h4 h5 h6 h7


set_option maxRecDepth 100000 in
theorem e30 {r : List RvT} {A : Option Addr} {c : Nat} {w : World} (hR : K.Rd w A 4 eR r) (hn : r.length ≤ 4611686018427387904) (hc : (chk r).2.2 ≠ 0) :
    Calls Tryd.prog 30 [.slice A r.length c].toArray w (K.RetSE 3 1 K.eI (prfL r) (chk r).2.2 w) := by
  refine K.enter (args := [.slice A r.length c]) Tryd.func30 rfl (n := 25) rfl ?_
  simp only [List.replicate, List.cons_append, List.nil_append]
  refine sr ?_
  refine K.seq_new (K.box) rfl ?_
  intro b1
  refine zN ?_
  iterate 2 refine qa ?_
  refine sn ?_
  refine sr ?_
  refine K.seq_sil (K.load1_own one_22 rfl (K.m0) rfl) rfl ?_
  refine zN ?_
  refine K.seq_call (K.call_g cal_52 (fun F w hF hw => e52 (hR.pass hw) hn hc)) rfl ?_
  refine zN ?_
  refine qm ?_
  refine qx ?_
  refine qx ?_
  refine K.seq_new (K.alloc zr_65) rfl ?_
  intro b4
  refine zN ?_
  refine K.seq_st (K.store sz_65 rfl rfl rfl rfl (K.rp0)) rfl ?_
  refine zN ?_
  refine qa ?_
  refine sn ?_
  refine K.seq ?_
  refine sr ?_
  refine qm ?_
  refine qp (K.neq rfl rfl) ?_
  refine sn ?_
  refine K.cond_true (by exact congrArg Value.bool (decide_eq_true hc)) ?_
  refine sr ?_
  refine qm ?_
  iterate 2 refine qa ?_
  refine sn ?_
  refine K.ret ?_
  refine K.ret_then ?_
  refine K.end_ret (fun w _ => K.res_tmp2 rfl w) ?_
  exact K.rets_se0 (by unfold prfL; rw [if_pos hc]) rfl rfl

set_option maxRecDepth 100000 in
theorem g30 {r : List RvT} {A : Option Addr} {c : Nat} {w : World} (hR : K.Rd w A 4 eR r) (hn : r.length ≤ 4611686018427387904) (hT : Tab w) (hc : (chk r).2.2 = 0) :
    Calls Tryd.prog 30 [.slice A r.length c].toArray w (K.RetSE 3 1 K.eI (prfL r) (chk r).2.2 w) := by
  have g : Good r := chk_good hc
  have hgn := g.n
  refine K.enter (args := [.slice A r.length c]) Tryd.func30 rfl (n := 25) rfl ?_
  simp only [List.replicate, List.cons_append, List.nil_append]
  refine sr ?_
  refine K.seq_new (K.box) rfl ?_
  intro b1
  refine zN ?_
  iterate 2 refine qa ?_
  refine sn ?_
  refine sr ?_
  refine K.seq_sil (K.load1_own one_22 rfl (K.m0) rfl) rfl ?_
  refine zN ?_
  refine K.seq_loud (K.call_f cal_52 (fun F w hF hw => g52 (hR.pass hw) hn hc)) rfl ?_
  rintro q _
  refine zN ?_
  refine qm ?_
  refine qx ?_
  refine qx ?_
  refine K.seq_new (K.alloc zr_65) rfl ?_
  intro b4
  refine zN ?_
  refine K.seq_st (K.store sz_65 rfl rfl rfl rfl (K.rp0)) rfl ?_
  refine zN ?_
  refine qa ?_
  refine sn ?_
  refine K.seq ?_
  refine sr ?_
  refine qm ?_
  refine qp (K.neq rfl rfl) ?_
  refine sn ?_
  refine K.cond_false (by rfl) ?_
  refine K.skip ?_
  refine K.norm_then ?_
  refine sr ?_
  refine K.seq_new (K.alloc zr_26) rfl ?_
  intro b6
  refine zN ?_
  refine sn ?_
  refine sr ?_
  refine K.seq_sil (K.load1_own one_22 rfl (K.m3) rfl) rfl ?_
  refine zN ?_
  refine qp (K.len_sl sl_22 rfl) ?_
  refine qp (K.add_i64 rfl rfl (by omega)) ?_
  refine K.seq_new (K.alloc zr_3) rfl ?_
  intro b7
  refine zN ?_
  refine K.seq_st (K.store sz_3 rfl rfl rfl rfl (K.rp0)) rfl ?_
  refine zN ?_
  refine sn ?_
  refine sr ?_
  refine K.seq_new (K.alloc zr_26) rfl ?_
  intro b8
  refine zN ?_
  refine sn ?_
  refine sr ?_
  refine K.seq_new (K.alloc zr_26) rfl ?_
  intro b9
  refine zN ?_
  refine sn ?_
  refine sr ?_
  refine K.seq_new (K.alloc zr_86) rfl ?_
  intro b10
  refine zN ?_
  refine sn ?_
  refine sr ?_
  refine K.seq_pure (K.mkFunc) rfl ?_
  refine zN ?_
  refine K.seq_st (K.store sz_86 rfl rfl rfl rfl (K.rp0)) rfl ?_
  refine zN ?_
  refine sn ?_
  refine sr ?_
  refine K.nil_row (e := 3) (size := 1) ?_
  refine K.nil_row (e := 3) (size := 1) ?_
  refine K.nil_row (e := 3) (size := 1) ?_
  refine K.permH (L' := [_, _, _, _, _, _, _, _, _, _, _]) (List.Perm.trans (List.perm_middle (l₁ := [_, _, _, _, _])) (List.Perm.cons _ (List.Perm.cons _ (List.Perm.trans (List.perm_middle (l₁ := [_, _, _, _])) (List.Perm.cons _ (List.Perm.trans (List.perm_middle (l₁ := [_, _, _])) (List.Perm.cons _ (List.Perm.cons _ (List.Perm.trans (List.perm_middle (l₁ := [_, _])) (List.Perm.cons _ (List.Perm.cons _ (List.Perm.trans (List.perm_middle (l₁ := [_, _, _])) (List.Perm.cons _ (List.Perm.trans (List.perm_middle (l₁ := [_])) (List.Perm.cons _ (List.Perm.refl _)))))))))))))))) ?_
  refine K.seq_sil (K.load1_own one_86 rfl (K.m9) rfl) rfl ?_
  refine zN ?_
  refine K.seq_upd (K.callU (first := []) (cap := [.pointer (some ⟨b8, 0, none⟩), .pointer (some ⟨b7, 0, none⟩), .pointer (some ⟨b1, 0, none⟩), .pointer (some ⟨b9, 0, none⟩), .pointer (some ⟨b6, 0, none⟩), .pointer (some ⟨b4, 0, none⟩), .pointer (some ⟨b10, 0, none⟩)]) rfl cal_66 (fun w hw => c66 (r := r) (A := A) (c := c) (q := q) (p1 := b8) (p2 := b7) (p3 := b1) (p4 := b9) (p5 := b6) (p6 := b4) (p7 := b10) hR hT g r.length (cs := []) (l := []) (best := []) (i := 0) (T := []) hw rfl rfl rfl rfl CsOk.nil rfl)) rfl ?_
  rintro ⟨⟨Q1, c1⟩, ⟨Q4, c4⟩, Q5, c5⟩ _
  refine zN ?_
  refine sn ?_
  refine sr ?_
  refine K.seq_sil (K.load1_own one_26 rfl (K.m5) rfl) rfl ?_
  refine zN ?_
  iterate 2 refine qa ?_
  refine sn ?_
  refine K.ret ?_
  refine K.end_ret (fun w _ => K.res_tmp2 rfl w) ?_
  have hl : prfL r = (prfS r).1 := by unfold prfL; rw [if_neg (by omega)]
  rw [hl, hc]
  exact K.rets_se K.m6 rfl rfl rfl rfl

theorem c30 {r : List RvT} {A : Option Addr} {c : Nat} {w : World} (hR : K.Rd w A 4 eR r) (hn : r.length ≤ 4611686018427387904) (hT : Tab w) : Calls Tryd.prog 30 [.slice A r.length c].toArray w (K.RetSE 3 1 K.eI (prfL r) (chk r).2.2 w) := by
  by_cases hc : (chk r).2.2 = 0
  · exact g30 hR hn hT hc
  · exact e30 hR hn hc


end Go.Proofs.YtoemnobfnnjopaaDoor
