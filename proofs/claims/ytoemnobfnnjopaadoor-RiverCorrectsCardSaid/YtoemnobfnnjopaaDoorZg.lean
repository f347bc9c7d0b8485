/-
  Lemmas and walks of functions, joined and with only what the claim needs.
  Conditions stand in each theorem.
-/
import Derived.Test.YtoemnobfnnjopaaDoorProg
import Derived.Test.YtoemnobfnnjopaaDoorRows
import Derived.Below
import Derived.Laws.AppendOwn
import Derived.Laws.Rows
import Derived.Laws.Slices
import Derived.Tactics
import Derived.OrdersHeld
import Derived.KernelRfl
import Derived.WalkKit
import Derived.Deep.AppendLies
import Derived.IntWalk
import Derived.Scope
import Derived.WalkSpells
import Derived.DeepKeys
import Derived.Deep.Upon
import Derived.RangeFuncLeaves
import Derived.RangeFuncSeq
import Derived.OrdersIn
import Derived.Sort.LoopGhostIn
import Derived.TacticsIn
import Derived.RangeFuncOwn
import Derived.WideKeyMaps
import Derived.DeepKeys4
import Derived.Carry
import Derived.Laws.CopyRow
import Derived.Laws.Strings
import Derived.WalkArith
import Derived.Laws.Closers25b
import Derived.ProofKit
import Derived.OpenShut
import Derived.LaidMore
import Derived.Lay
import Derived.Stop.Joined
import Derived.ChangeOld
import Derived.SizedLaws
import Derived.Deep.Slices
import Derived.Deep.Fields
import Derived.ChangeSame
import Derived.Lib.SmallJoins
import Derived.Laws.MakeOwn
import Derived.Shelf.Sort.Plain
import Derived.Sort.OwnSortedInts
import Derived.SevenTiedAt
import Derived.Test.YtoemnobfnnjopaaDoorZf
section
set_option linter.unusedSimpArgs false
set_option linter.unusedVariables false
namespace Go.Proofs.YtoemnobfnnjopaaDoor
open Go.RowKit Go
open Go.K (setd setn ev nth over cl eI eP eT setM setF)
attribute [local irreducible] K.blk K.row
def slN (v : Value) : Nat := match v with
  | .slice _ n _ => n
  | _ => 0
theorem rc_len' {r : List RvT} {lv fx : List Int} {f k : Nat} (h : f ≠ 0) : (rcL r lv fx f k).length = lv.length := by
  obtain ⟨g, rfl⟩ := Nat.exists_eq_succ_of_ne_zero h
  exact rc_len
theorem sumR_t {rec : Nat → List Int} {r : List RvT} {lv fx : List Int} {i m a : Nat} {ks : List Nat} (ha : a < ks.length) : sumR rec r lv fx i m (ks.take (a + 1)) = min neverR (sumR rec r lv fx i m (ks.take a) + bfF (rec (ks.getD a default)) m (lv.length - m)) := by
  rw [List.take_add_one, List.getElem?_eq_getElem ha, List.getD_eq_getElem?_getD, List.getElem?_eq_getElem ha]
  unfold sumR
  rw [List.foldl_append]; rfl
theorem sumR_bd {rec : Nat → List Int} {r : List RvT} {lv fx : List Int} {i m : Nat} {ks : List Nat} (h0 : 0 ≤ ownR r lv fx i m ∧ ownR r lv fx i m ≤ neverR) (hr : ∀ k, 0 ≤ bfF (rec k) m (lv.length - m)) : 0 ≤ sumR rec r lv fx i m ks ∧ sumR rec r lv fx i m ks ≤ neverR := by
  unfold sumR
  generalize ownR r lv fx i m = z at h0 ⊢
  have e1 : neverR = 1073741824 := rfl
  induction ks generalizing z with
  | nil => exact h0
  | cons k ks ih =>
    rw [List.foldl_cons]
    refine ih _ ?_
    have := hr k
    omega
theorem ownR_bd {r : List RvT} {lv fx : List Int} {i m : Nat} (g : Good r) (hi : i < r.length) : 0 ≤ ownR r lv fx i m ∧ ownR r lv fx i m ≤ neverR := by
  have e1 : neverR = 1073741824 := rfl
  unfold ownR
  split
  · rename_i h
    have := ownC_bd g hi h.1
    omega
  · omega

set_option maxRecDepth 100000 in
set_option maxHeartbeats 1000000 in
theorem c78 {r : List RvT} {A : Option Addr} {c : Nat} {w : World} (hR : K.Rd w A 4 eR r) (g : Good r) :
    Calls Tryd.prog 78 [.slice A r.length c, .int .i64 ((mthS r : Nat) : Int)].toArray w (K.RetS 3 1 K.eI (levR r) w) := by
  have hgn := g.n
  refine K.enter (args := [.slice A r.length c, .int .i64 ((mthS r : Nat) : Int)]) Tryd.func78 rfl (n := 77) rfl ?_
  simp only [List.replicate, List.cons_append, List.nil_append]
  refine sr ?_
  refine qa ?_
  refine sn ?_
  refine sr ?_
  refine K.seq_new (K.buildSlice (bs1 _)) rfl ?_
  intro b13
  refine zN ?_
  refine K.blk_row (n := 1) (size := 1) rfl (by decide) ?_
  refine zN ?_
  refine qa ?_
  refine sn ?_
  refine K.seq ?_
  refine sr ?_
  refine qa ?_
  refine sn ?_
  refine K.block ?_
  refine K.loopW [5, 6] [7, 14, 15, 16, 17, 18, 19, 20, 21, 22, 23, 24, 25, 26, 27, 28, 29, 30, 31, 32, 33, 34, 35] (fun vi L => ∃ (i : Nat) (QL : Option Addr) (cL : Nat), vi = [.slice QL (levF r i).length cL, .int .i64 (i : Int)] ∧ L = [K.row (.slice QL (levF r i).length cL) 3 1 (levF r i).length ((levF r i).flatMap K.eI)] ∧ i ≤ r.length) (fun vi => r.length - (intOf (K.nth vi 1)).toNat) ?_ ?_
  · exact ⟨0, some ⟨b13, 0, none⟩, 1, rfl, rfl, Nat.zero_le _⟩
  intro vi vr L hJ
  obtain ⟨i, QL, cL, rfl, rfl, hin⟩ := hJ
  try dsimp only [setd, setn, ev, nth, over, cl, eI, eP, eT, eR, setM, setF, List.map, List.append, List.drop, List.take]
  refine K.seq ?_
  refine sr ?_
  iterate 2 refine qm ?_
  refine qp (K.len_sl sl_22 rfl) ?_
  refine qp (K.lss rfl rfl) ?_
  refine sn ?_
  refine K.cond rfl (fun ht17 => ?_) (fun ht17 => ?_)
  · try replace ht17 := of_decide_eq_true ht17
    have hi : i < r.length := by omega
    have hpi := g.p i hi
    have hdm := DM_le g hi
    have hfl := levF_len (r := r) i
    refine K.skip ?_
    refine K.norm_then ?_
    refine K.seq ?_
    refine K.block ?_
    refine sr ?_
    iterate 3 refine qm ?_
    refine K.seq_call (K.call_g cal_37 (fun F w hF hw => (by have hg := c37 (c := c) (k := mthS r) (hR.pass hw) g hi; rw [drp_mth g hi] at hg; exact hg))) rfl ?_
    refine zN ?_
    refine qa ?_
    refine sn ?_
    refine K.region_lit ?_
    iterate 3 refine qm ?_
    refine K.seq_ix (M := []) _ hR.sl sl_22 rfl rfl rfl (by omega) rfl ?_
    intro p27 hp27
    refine zN ?_
    refine qp (K.fieldAddr fo_44_3 rfl) ?_
    refine K.seq_sil (K.load1 one_3 rfl ((K.PtrL.fld hp27 (k := 3)).any)) rfl ?_
    refine zN ?_
    refine qm ?_
    refine qp (K.sub_i64 rfl rfl (by omega)) ?_
    refine qm ?_
    refine qp (K.sub_i64 rfl rfl (by omega)) ?_
    refine K.seq_new (K.buildSlice (bs2 _ _)) rfl ?_
    intro b34
    refine zN ?_
    refine K.seq_upd (K.append el_26 rfl rfl (K.PtrL.own' (K.m0)) rfl rfl (by decide) (by omega) (by omega) (fun _ _ => K.rp1)) rfl ?_
    rintro ⟨g35, c35⟩ _
    refine zN ?_
    refine qa ?_
    refine K.seq_nil ?_
    refine K.norm_block ?_
    refine K.norm_then ?_
    refine K.region_lit ?_
    refine qm ?_
    refine qp (K.add_i64 rfl rfl (by omega)) ?_
    refine qa ?_
    refine K.seq_nil ?_
    exact K.round_endW (L'' := [K.row (.slice (some ⟨g35, 0, none⟩) ((levF r i).length + 2) c35) 3 1 ((levF r i).length + 2) ((levF r i).flatMap K.eI ++ [.int .i64 ((r.getD i default).ht - DM r i), .int .i64 (9000 - DM r i)])]) [.slice (some ⟨g35, 0, none⟩) ((levF r i).length + 2) c35, .int .i64 ((i : Int) + 1)] ⟨i + 1, some ⟨g35, 0, none⟩, c35, by rw [levF, List.length_append] <;> rfl, by rw [levF, List.length_append, List.flatMap_append] <;> rfl, by omega⟩ (by simp [K.nth, intOf]; omega) (List.Sublist.cons _ (List.Sublist.refl _)) (by kernel_rfl)
  try replace ht17 := of_decide_eq_false ht17
  have e0 : i = r.length := by omega
  subst e0
  have hfl := levF_len (r := r) r.length
  refine K.exit ?_
  refine K.exit_then ?_
  refine K.exit_then ?_
  refine K.exit_here ?_
  refine K.norm_then ?_
  refine sr ?_
  refine K.nil_row (e := 3) (size := 1) ?_
  refine K.permH (L' := [_, _]) (List.Perm.trans (List.perm_middle (l₁ := [_])) (List.Perm.cons _ (List.Perm.refl _))) ?_
  refine qa ?_
  refine sn ?_
  refine K.seq ?_
  refine K.block ?_
  refine K.loopW [5, 8] [9, 10, 11, 12, 36, 37, 38, 39, 40, 41, 42, 43, 44, 45, 46, 47, 48, 49, 50, 51, 52, 53, 54, 55, 56, 57, 58, 59, 60, 61, 62, 63, 64, 65, 66, 67, 68, 69, 70, 71, 72, 73, 74, 75, 76, 77] (fun vi L => ∃ (o l : List Int) (QL : Option Addr) (cL : Nat) (QO : Option Addr) (qo : Nat), vi = [.slice QL l.length cL, .slice QO o.length qo] ∧ L = [K.row (.slice QL l.length cL) 3 1 l.length (l.flatMap K.eI), K.row (.slice QO o.length qo) 3 1 o.length (o.flatMap K.eI)] ∧ o ++ selS l.length l = levR r ∧ o.length + l.length ≤ 19) (fun vi => slN (K.nth vi 0)) ?_ ?_
  · exact ⟨[], levF r r.length, QL, cL, none, 0, rfl, rfl, rfl, by simp only [List.length_nil]; omega⟩
  intro vi vr L hJ
  obtain ⟨o, l, QL, cL, QO, qo, rfl, rfl, he, hol⟩ := hJ
  try dsimp only [setd, setn, ev, nth, over, cl, eI, eP, eT, eR, setM, setF, List.map, List.append, List.drop, List.take]
  refine K.seq ?_
  refine sr ?_
  refine qm ?_
  refine qp (K.len_sl sl_26 rfl) ?_
  refine qp (K.gtr rfl rfl) ?_
  refine sn ?_
  refine K.cond rfl (fun ht38 => ?_) (fun ht38 => ?_)
  · try replace ht38 := of_decide_eq_true ht38
    refine K.skip ?_
    refine K.norm_then ?_
    refine K.block ?_
    refine K.seq ?_
    refine K.use_row K.m0 (fun hqL => ?_)
    refine K.region_lit ?_
    refine qm ?_
    refine K.seq_ix (M := [K.row (.slice QL l.length cL) 3 1 l.length (l.flatMap K.eI)]) 0 (K.Sl.own (w0 := w) (t := 3) (c := cL) (e := K.eI) hqL (fun _ => rfl)) sl_26 rfl rfl (by omega) (by omega) rfl ?_
    intro p40 hp40
    refine zN ?_
    refine K.seq_sil (K.load1 one_3 rfl (hp40.at1 (K.m0))) rfl ?_
    refine zN ?_
    refine qa ?_
    refine sn ?_
    refine K.seq ?_
    refine sr ?_
    refine qa ?_
    refine sn ?_
    refine K.block ?_
    refine K.loopW [9, 10] [42, 43, 44, 45, 46, 47, 48, 49, 50, 51, 52, 53] (fun vi L => ∃ k : Nat, vi = [.int .i64 (mnF l k), .int .i64 (k : Int)] ∧ L = [K.row (.slice QL l.length cL) 3 1 l.length (l.flatMap K.eI), K.row (.slice QO o.length qo) 3 1 o.length (o.flatMap K.eI)] ∧ k ≤ l.length) (fun vi => l.length - (intOf (K.nth vi 1)).toNat) ?_ ?_
    · exact ⟨0, rfl, rfl, Nat.zero_le _⟩
    intro vi vr L hJ
    obtain ⟨k, rfl, rfl, hkn⟩ := hJ
    try dsimp only [setd, setn, ev, nth, over, cl, eI, eP, eT, eR, setM, setF, List.map, List.append, List.drop, List.take]
    refine K.seq ?_
    refine sr ?_
    iterate 2 refine qm ?_
    refine qp (K.len_sl sl_26 rfl) ?_
    refine qp (K.lss rfl rfl) ?_
    refine sn ?_
    refine K.cond rfl (fun ht45 => ?_) (fun ht45 => ?_)
    · try replace ht45 := of_decide_eq_true ht45
      have hk : k < l.length := by omega
      refine K.skip ?_
      refine K.norm_then ?_
      refine K.seq ?_
      refine K.block ?_
      refine K.region_lit ?_
      iterate 3 refine qm ?_
      refine K.seq_ix (M := [K.row (.slice QL l.length cL) 3 1 l.length (l.flatMap K.eI)]) _ (K.Sl.own (w0 := w) (t := 3) (c := cL) (e := K.eI) hqL (fun _ => rfl)) sl_26 rfl rfl rfl (by omega) rfl ?_
      intro p51 hp51
      refine zN ?_
      refine K.seq_sil (K.load1 one_3 rfl (hp51.at1 (K.m0))) rfl ?_
      refine zN ?_
      refine qp (K.min_int rfl rfl) ?_
      refine qa ?_
      refine K.seq_nil ?_
      refine K.norm_block ?_
      refine K.norm_then ?_
      refine K.region_lit ?_
      refine qm ?_
      refine qp (K.add_i64 rfl rfl (by omega)) ?_
      refine qa ?_
      refine K.seq_nil ?_
      exact K.round_endW (L'' := [K.row (.slice QL l.length cL) 3 1 l.length (l.flatMap K.eI), K.row (.slice QO o.length qo) 3 1 o.length (o.flatMap K.eI)]) [.int .i64 (mnF l (k + 1)), .int .i64 ((k : Int) + 1)] ⟨k + 1, rfl, rfl, by omega⟩ (by simp [K.nth, intOf]; omega) (List.Sublist.refl _) (by kernel_rfl)
    try replace ht45 := of_decide_eq_false ht45
    have e0 : k = l.length := by omega
    subst e0
    refine K.exit ?_
    refine K.exit_then ?_
    refine K.exit_then ?_
    refine K.exit_here ?_
    refine K.norm_then ?_
    refine sr ?_
    refine K.nil_row (e := 3) (size := 1) ?_
    refine qa ?_
    refine sn ?_
    refine K.seq ?_
    refine sr ?_
    refine qa ?_
    refine sn ?_
    refine K.block ?_
    refine K.loopW [11, 12] [54, 55, 56, 57, 58, 59, 60, 61, 62, 63, 64, 65, 66, 67, 68, 69, 70, 71, 72] (fun vi L => ∃ (k : Nat) (QR : Option Addr) (qr : Nat), vi = [.slice QR (rstF l (mnF l l.length) k).length qr, .int .i64 (k : Int)] ∧ L = [K.row (.slice QR (rstF l (mnF l l.length) k).length qr) 3 1 (rstF l (mnF l l.length) k).length ((rstF l (mnF l l.length) k).flatMap K.eI), K.row (.slice QL l.length cL) 3 1 l.length (l.flatMap K.eI), K.row (.slice QO o.length qo) 3 1 o.length (o.flatMap K.eI)] ∧ k ≤ l.length) (fun vi => l.length - (intOf (K.nth vi 1)).toNat) ?_ ?_
    · exact ⟨0, none, 0, rfl, rfl, Nat.zero_le _⟩
    intro vi vr L hJ
    obtain ⟨k, QR, qr, rfl, rfl, hkn⟩ := hJ
    try dsimp only [setd, setn, ev, nth, over, cl, eI, eP, eT, eR, setM, setF, List.map, List.append, List.drop, List.take]
    refine K.seq ?_
    refine sr ?_
    iterate 2 refine qm ?_
    refine qp (K.len_sl sl_26 rfl) ?_
    refine qp (K.lss rfl rfl) ?_
    refine sn ?_
    refine K.cond rfl (fun ht57 => ?_) (fun ht57 => ?_)
    · try replace ht57 := of_decide_eq_true ht57
      have hk : k < l.length := by omega
      have hrk : (rstF l (mnF l l.length) k).length ≤ k := Nat.le_trans (List.length_filter_le _ _) (by rw [List.length_take]; omega)
      refine K.skip ?_
      refine K.norm_then ?_
      refine K.seq ?_
      refine K.block ?_
      refine sr ?_
      iterate 2 refine qm ?_
      refine K.seq_ix (M := [K.row (.slice QL l.length cL) 3 1 l.length (l.flatMap K.eI)]) _ (K.Sl.own (w0 := w) (t := 3) (c := cL) (e := K.eI) hqL (fun _ => rfl)) sl_26 rfl rfl rfl (by omega) rfl ?_
      intro p62 hp62
      refine zN ?_
      refine K.seq_sil (K.load1 one_3 rfl (hp62.at1 (K.m1))) rfl ?_
      refine zN ?_
      refine qm ?_
      refine qp (K.neq rfl rfl) ?_
      refine sn ?_
      refine K.cond rfl (fun ht65 => ?_) (fun ht65 => ?_)
      · try replace ht65 := of_decide_eq_true ht65
        refine K.region_lit ?_
        iterate 3 refine qm ?_
        refine K.seq_ix (M := [K.row (.slice QL l.length cL) 3 1 l.length (l.flatMap K.eI)]) _ (K.Sl.own (w0 := w) (t := 3) (c := cL) (e := K.eI) hqL (fun _ => rfl)) sl_26 rfl rfl rfl (by omega) rfl ?_
        intro p69 hp69
        refine zN ?_
        refine K.seq_sil (K.load1 one_3 rfl (hp69.at1 (K.m1))) rfl ?_
        refine zN ?_
        refine K.seq_new (K.buildSlice (bs1 _)) rfl ?_
        intro b71
        refine zN ?_
        refine K.seq_upd (K.append el_26 rfl rfl (K.PtrL.own' (K.m0)) rfl rfl (by decide) (by omega) (by omega) (fun _ _ => K.rp1)) rfl ?_
        rintro ⟨g72, c72⟩ _
        refine zN ?_
        refine qa ?_
        refine K.seq_nil ?_
        refine K.norm_block ?_
        refine K.norm_then ?_
        refine K.region_lit ?_
        refine qm ?_
        refine qp (K.add_i64 rfl rfl (by omega)) ?_
        refine qa ?_
        refine K.seq_nil ?_
        have hrs : (rstF l (mnF l l.length) (k + 1)) = (rstF l (mnF l l.length) k) ++ [l.getD k default] := by rw [rst_s hk, if_pos ht65]
        exact K.round_endW (L'' := [K.row (.slice (some ⟨g72, 0, none⟩) ((rstF l (mnF l l.length) k).length + 1) c72) 3 1 ((rstF l (mnF l l.length) k).length + 1) ((rstF l (mnF l l.length) k).flatMap K.eI ++ [.int .i64 (l.getD k default)]), K.row (.slice QL l.length cL) 3 1 l.length (l.flatMap K.eI), K.row (.slice QO o.length qo) 3 1 o.length (o.flatMap K.eI)]) [.slice (some ⟨g72, 0, none⟩) ((rstF l (mnF l l.length) k).length + 1) c72, .int .i64 ((k : Int) + 1)] ⟨k + 1, some ⟨g72, 0, none⟩, c72, by rw [hrs, List.length_append] <;> rfl, by rw [hrs, List.length_append, List.flatMap_append] <;> rfl, by omega⟩ (by simp [K.nth, intOf]; omega) (List.Sublist.cons _ (List.Sublist.refl _)) (by kernel_rfl)
      try replace ht65 := of_decide_eq_false ht65
      refine K.skip ?_
      refine K.norm_block ?_
      refine K.norm_then ?_
      refine K.region_lit ?_
      refine qm ?_
      refine qp (K.add_i64 rfl rfl (by omega)) ?_
      refine qa ?_
      refine K.seq_nil ?_
      have hrs : (rstF l (mnF l l.length) (k + 1)) = (rstF l (mnF l l.length) k) := by rw [rst_s hk, if_neg ht65, List.append_nil]
      exact K.round_endW (L'' := [K.row (.slice QR (rstF l (mnF l l.length) k).length qr) 3 1 (rstF l (mnF l l.length) k).length ((rstF l (mnF l l.length) k).flatMap K.eI), K.row (.slice QL l.length cL) 3 1 l.length (l.flatMap K.eI), K.row (.slice QO o.length qo) 3 1 o.length (o.flatMap K.eI)]) [.slice QR (rstF l (mnF l l.length) k).length qr, .int .i64 ((k : Int) + 1)] ⟨k + 1, QR, qr, by rw [hrs] <;> rfl, by rw [hrs] <;> rfl, by omega⟩ (by simp [K.nth, intOf]; omega) (List.Sublist.refl _) (by kernel_rfl)
    try replace ht57 := of_decide_eq_false ht57
    have e0 : k = l.length := by omega
    subst e0
    refine K.exit ?_
    refine K.exit_then ?_
    refine K.exit_then ?_
    refine K.exit_here ?_
    refine K.norm_then ?_
    refine K.region_lit ?_
    iterate 2 refine qm ?_
    refine K.seq_new (K.buildSlice (bs1 _)) rfl ?_
    intro b75
    refine zN ?_
    refine K.seq_upd (K.append el_26 rfl rfl (K.PtrL.own' (K.m0)) rfl rfl (by decide) (by omega) (by omega) (fun _ _ => K.rp3)) rfl ?_
    rintro ⟨g76, c76⟩ _
    refine zN ?_
    refine qm ?_
    iterate 2 refine qa ?_
    refine K.seq_nil ?_
    refine K.norm_block ?_
    have hre : (rstF l (mnF l l.length) l.length) = rstV l := rst_all
    have hrl := rst_lt (l := l) (by omega)
    have hst := sel_step (l := l) (by omega)
    exact K.round_endW (L'' := [K.row (.slice QR (rstF l (mnF l l.length) l.length).length qr) 3 1 (rstF l (mnF l l.length) l.length).length ((rstF l (mnF l l.length) l.length).flatMap K.eI), K.row (.slice (some ⟨g76, 0, none⟩) (o.length + 1) c76) 3 1 (o.length + 1) (o.flatMap K.eI ++ [.int .i64 (mnF l l.length)])]) [.slice QR (rstF l (mnF l l.length) l.length).length qr, .slice (some ⟨g76, 0, none⟩) (o.length + 1) c76] ⟨o ++ [(mnF l l.length)], rstV l, QR, qr, some ⟨g76, 0, none⟩, c76, by rw [hre, List.length_append] <;> rfl, by rw [hre, List.length_append, List.flatMap_append] <;> rfl, by rw [List.append_assoc, ← he, hst]; rfl, by rw [List.length_append, List.length_singleton]; omega⟩ (by show slN (.slice QR (rstF l (mnF l l.length) l.length).length qr) < slN (.slice QL l.length cL); rw [hre]; exact hrl) (List.Sublist.cons _ (List.Sublist.cons_cons _ (List.Sublist.cons _ (List.Sublist.refl _)))) (by kernel_rfl)
  try replace ht38 := of_decide_eq_false ht38
  refine K.exit ?_
  refine K.exit_then ?_
  refine K.exit_then ?_
  refine K.exit_here ?_
  refine K.norm_then ?_
  refine sr ?_
  refine qm ?_
  refine qa ?_
  refine sn ?_
  refine K.ret ?_
  refine K.end_ret (fun w _ => K.res_tmp rfl w) ?_
  have e0 : l = [] := List.eq_nil_of_length_eq_zero (by omega)
  subst e0
  have hoe : o = levR r := by rw [← he]; simp [selS]
  rw [← hoe]
  exact K.rets_s K.m1 rfl rfl rfl

set_option maxRecDepth 100000 in
set_option maxHeartbeats 4000000 in
theorem s95 {r : List RvT} {A : Option Addr} {c : Nat} {QA QF : Option Addr} {ca cf : Nat} {lv fx : List Int} {f i : Nat} {w : World} (hR : K.Rd w A 4 eR r) (g : Good r) (hi : i < r.length) (hA : K.Rd w QA 1 K.eI lv) (hF0 : K.Rd w QF 1 K.eI fx) (hlv : ∀ m, m < lv.length → -4500 ≤ lv.getD m default ∧ lv.getD m default ≤ 9000) (hll : lv.length ≤ 19) (hfl : fx.length ≤ 9) (hd : dep r i + (f + 1) = r.length + 1) (ih : ∀ {k : Nat} {w : World}, k < r.length → dep r k + f = r.length + 1 → K.Rd w A 4 eR r → K.Rd w QA 1 K.eI lv → K.Rd w QF 1 K.eI fx → Calls Tryd.prog 95 [.slice A r.length c, .int .i64 ((mthS r : Nat) : Int), .int .i64 (k : Int), .slice QA lv.length ca, .slice QF fx.length cf].toArray w (K.RetS 3 1 K.eI (rcL r lv fx f k) w)) :
    Calls Tryd.prog 95 [.slice A r.length c, .int .i64 ((mthS r : Nat) : Int), .int .i64 (i : Int), .slice QA lv.length ca, .slice QF fx.length cf].toArray w (K.RetS 3 1 K.eI (rcL r lv fx (f + 1) i) w) := by
  have hgn := g.n
  have hpi := g.p i hi
  have hdm := DM_le g hi
  have hnv : neverR = 1073741824 := rfl
  have hdl := dep_lt g hi
  refine K.enter (args := [.slice A r.length c, .int .i64 ((mthS r : Nat) : Int), .int .i64 (i : Int), .slice QA lv.length ca, .slice QF fx.length cf]) Tryd.func95 rfl (n := 115) rfl ?_
  simp only [List.replicate, List.cons_append, List.nil_append]
  refine sr ?_
  refine qa ?_
  refine sn ?_
  refine sr ?_
  refine K.inn_none [] [] rfl (by simp) ?_
  refine K.nil_row (e := 26) (size := 1) ?_
  refine qa ?_
  refine sn ?_
  refine K.seq ?_
  refine sr ?_
  refine qa ?_
  refine sn ?_
  refine K.block ?_
  refine K.loopW [11, 12] [20, 21, 22, 23, 24, 25, 26, 27, 28, 29, 30, 31, 32, 33, 34, 35, 36, 37, 38, 39, 40, 41] (fun vi L => ∃ (k : Nat) (Q1 : Option Addr) (q1 : Nat) (vs : List Value) (F : Nat → Prop), vi = [.slice Q1 vs.length q1, .int .i64 (k : Int)] ∧ L = [K.row (.slice Q1 vs.length q1) 26 1 vs.length (vs.flatMap K.eV), K.inn F vs ((chL r i k).map (rcL r lv fx f))] ∧ vs.all Value.oneCell' = true ∧ vs.length = (chL r i k).length ∧ k ≤ r.length) (fun vi => r.length - (intOf (K.nth vi 1)).toNat) ?_ ?_
  · exact ⟨0, none, 0, [], fun _ => False, rfl, rfl, rfl, rfl, Nat.zero_le _⟩
  intro vi vr L hJ
  obtain ⟨k, Q1, q1, vs, F, rfl, rfl, hvo, hvl, hkn⟩ := hJ
  try dsimp only [setd, setn, ev, nth, over, cl, eI, eP, eT, eR, setM, setF, List.map, List.append, List.drop, List.take]
  refine K.seq ?_
  refine sr ?_
  iterate 2 refine qm ?_
  refine qp (K.len_sl sl_22 rfl) ?_
  refine qp (K.lss rfl rfl) ?_
  refine sn ?_
  refine K.cond rfl (fun ht23 => ?_) (fun ht23 => ?_)
  · try replace ht23 := of_decide_eq_true ht23
    have hk : k < r.length := by omega
    have hcl := ch_len (r := r) (i := i) (n := k)
    refine K.skip ?_
    refine K.norm_then ?_
    refine K.seq ?_
    refine K.block ?_
    refine sr ?_
    iterate 2 refine qm ?_
    refine K.seq_ix (M := []) _ hR.sl sl_22 rfl rfl rfl (by omega) rfl ?_
    intro p28 hp28
    refine zN ?_
    refine qp (K.fieldAddr fo_44_1 rfl) ?_
    refine K.seq_sil (K.load1 one_3 rfl ((K.PtrL.fld hp28 (k := 1)).any)) rfl ?_
    refine zN ?_
    refine qm ?_
    refine qp (K.eql rfl rfl) ?_
    refine sn ?_
    refine K.cond rfl (fun ht32 => ?_) (fun ht32 => ?_)
    · try replace ht32 := of_decide_eq_true ht32
      refine K.region_lit ?_
      iterate 6 refine qm ?_
      refine K.seq_loud (K.call_f cal_95 (fun F w hF hw => (ih hk (by have := dn_dep g hk ht32; omega) (hR.pass hw) (hA.pass hw) (hF0.pass hw)))) rfl ?_
      rintro ⟨Q39, c39⟩ hq39
      refine zN ?_
      refine K.seq_new (K.buildSlice (bs50 _ _ _)) rfl ?_
      intro b40
      refine zN ?_
      refine K.seq_upd (K.append el_50 rfl rfl (K.PtrL.own' K.m0) rfl rfl (by decide) (by omega) (by omega) (fun _ _ => K.rp2)) rfl ?_
      rintro ⟨g41, c41⟩ _
      refine zN ?_
      refine qa ?_
      refine K.seq_nil ?_
      refine K.norm_block ?_
      refine K.norm_then ?_
      refine K.region_lit ?_
      refine qm ?_
      refine qp (K.add_i64 rfl rfl (by omega)) ?_
      refine qa ?_
      refine K.seq_nil ?_
      have hch : (chL r i (k + 1)) = (chL r i k) ++ [k] := by rw [ch_s, if_pos ht32]
      refine K.weak (L' := [K.row (.slice Q39 ((rcL r lv fx f) k).length c39) 3 1 ((rcL r lv fx f) k).length (((rcL r lv fx f) k).flatMap K.eI), K.row (.slice (some ⟨g41, 0, none⟩) (vs.length + 1) c41) 26 1 (vs.length + 1) (vs.flatMap K.eV ++ [(.slice Q39 ((rcL r lv fx f) k).length c39)]), K.inn F vs ((chL r i k).map (rcL r lv fx f))]) (List.Sublist.cons _ (List.Sublist.refl _)) ?_
      refine K.row_inn hq39 ?_
      refine K.reorder (.trans (.cons _ (.swap _ _ _)) (.swap _ _ _)) ?_
      refine K.inn_app ?_
      refine K.reorder (.swap _ _ _) ?_
      exact K.round_endW (vi := _) [.slice (some ⟨g41, 0, none⟩) (vs.length + 1) c41, .int .i64 ((k : Int) + 1)] ⟨k + 1, some ⟨g41, 0, none⟩, c41, vs ++ [(.slice Q39 ((rcL r lv fx f) k).length c39)], _, by rw [List.length_append] <;> rfl, by rw [hch, List.length_append, List.flatMap_append, List.map_append] <;> rfl, by rw [List.all_append, hvo]; rfl, by rw [hch, List.length_append, List.length_append, hvl]; rfl, by omega⟩ (by simp [K.nth, intOf]; omega) (List.Sublist.refl _) (by kernel_rfl)
    try replace ht32 := of_decide_eq_false ht32
    refine K.skip ?_
    refine K.norm_block ?_
    refine K.norm_then ?_
    refine K.region_lit ?_
    refine qm ?_
    refine qp (K.add_i64 rfl rfl (by omega)) ?_
    refine qa ?_
    refine K.seq_nil ?_
    have hch : (chL r i (k + 1)) = (chL r i k) := by rw [ch_s, if_neg ht32, List.append_nil]
    exact K.round_endW (L'' := [K.row (.slice Q1 vs.length q1) 26 1 vs.length (vs.flatMap K.eV), K.inn F vs ((chL r i k).map (rcL r lv fx f))]) [.slice Q1 vs.length q1, .int .i64 ((k : Int) + 1)] ⟨k + 1, Q1, q1, vs, F, rfl, by rw [hch] <;> rfl, hvo, by rw [hch]; exact hvl, by omega⟩ (by simp [K.nth, intOf]; omega) (List.Sublist.refl _) (by kernel_rfl)
  try replace ht23 := of_decide_eq_false ht23
  have e0 : k = r.length := by omega
  subst e0
  have hcl := ch_len (r := r) (i := i) (n := r.length)
  refine K.exit ?_
  refine K.exit_then ?_
  refine K.exit_then ?_
  refine K.exit_here ?_
  refine K.norm_then ?_
  refine sr ?_
  refine K.nil_row (e := 3) (size := 1) ?_
  refine qa ?_
  refine sn ?_
  refine K.seq ?_
  refine K.seq ?_
  refine K.use_row K.m1 (fun hA1 => ?_)
  refine K.region_lit ?_
  refine qa ?_
  refine sn ?_
  refine K.block ?_
  refine K.loopW [13, 14] [15, 16, 17, 18, 19, 42, 43, 44, 45, 46, 47, 48, 49, 50, 51, 52, 53, 54, 55, 56, 57, 58, 59, 60, 61, 62, 63, 64, 65, 66, 67, 68, 69, 70, 71, 72, 73, 74, 75, 76, 77, 78, 79, 80, 81, 82, 83, 84, 85, 86, 87, 88, 89, 90, 91, 92, 93, 94, 95, 96, 97, 98, 99, 100, 101, 102, 103, 104, 105, 106, 107, 108, 109, 110, 111, 112, 113, 114, 115, 116, 117, 118] (fun vi L => ∃ (m : Nat) (QO : Option Addr) (qo : Nat), vi = [.slice QO ((List.range m).map fun m => sumR (rcL r lv fx f) r lv fx i m (chL r i r.length)).length qo, .int .i64 (m : Int)] ∧ L = [K.row (.slice QO ((List.range m).map fun m => sumR (rcL r lv fx f) r lv fx i m (chL r i r.length)).length qo) 3 1 ((List.range m).map fun m => sumR (rcL r lv fx f) r lv fx i m (chL r i r.length)).length (((List.range m).map fun m => sumR (rcL r lv fx f) r lv fx i m (chL r i r.length)).flatMap K.eI), K.row (.slice Q1 vs.length q1) 26 1 vs.length (vs.flatMap K.eV), K.inn F vs ((chL r i r.length).map (rcL r lv fx f))] ∧ m ≤ lv.length) (fun vi => lv.length - (intOf (K.nth vi 1)).toNat) ?_ ?_
  · exact ⟨0, none, 0, rfl, rfl, Nat.zero_le _⟩
  intro vi vr L hJ
  obtain ⟨m, QO, qo, rfl, rfl, hmn⟩ := hJ
  try dsimp only [setd, setn, ev, nth, over, cl, eI, eP, eT, eR, setM, setF, List.map, List.append, List.drop, List.take]
  refine K.seq ?_
  refine sr ?_
  iterate 2 refine qm ?_
  refine qp (K.len_sl sl_26 rfl) ?_
  refine qp (K.lss rfl rfl) ?_
  refine sn ?_
  refine K.cond rfl (fun ht45 => ?_) (fun ht45 => ?_)
  · try replace ht45 := of_decide_eq_true ht45
    have hm : m < lv.length := by omega
    have hlm := hlv m hm
    have hol := map_l (f := fun m => sumR (rcL r lv fx f) r lv fx i m (chL r i r.length)) (n := m)
    have hbn : ∀ k, 0 ≤ bfF ((rcL r lv fx f) k) m (lv.length - m) := fun k => bf_nn (fun b => rc_nn f k b) _
    refine K.skip ?_
    refine K.norm_then ?_
    refine K.seq ?_
    refine K.block ?_
    refine K.seq ?_
    refine K.draw_L [] Tryd_mixed ?_
    refine K.d_pure 0 rfl (K.move) (by kernel_rfl) rfl ?_
    refine zn ?_
    refine K.d_pure 1 rfl (K.move) (by kernel_rfl) rfl ?_
    refine zn ?_
    refine K.d_ix (M := []) 2 _ rfl hA.sl sl_26 rfl rfl rfl (by omega) (by kernel_rfl) rfl ?_
    intro p50 hp50
    refine zN ?_
    refine K.d_mem 3 rfl (K.load1 one_3 rfl (hp50.any)) (fun _ h => h) (by kernel_rfl) (by kernel_rfl) rfl ?_
    refine zN ?_
    refine K.d_pure 4 rfl (K.move) (by kernel_rfl) rfl ?_
    refine zn ?_
    refine K.d_pure 5 rfl (K.move) (by kernel_rfl) rfl ?_
    refine zn ?_
    refine K.d_pure 6 rfl (K.move) (by kernel_rfl) rfl ?_
    refine zn ?_
    refine K.d_call 7 rfl (K.call_g cal_37 (fun F w hF hw => (by have hg := c37 (c := c) (k := mthS r) (hR.pass hw) g hi; rw [drp_mth g hi] at hg; exact hg))) (fun _ h => h) (by kernel_rfl) rfl ?_
    refine zN ?_
    refine K.d_pure 8 rfl (K.add_i64 rfl rfl (by omega)) (by kernel_rfl) rfl ?_
    refine zn ?_
    refine K.d_pure 9 rfl (K.assign) (by kernel_rfl) rfl ?_
    refine zn ?_
    refine K.d_done (by kernel_rfl) ?_
    refine K.norm_then ?_
    refine K.seq ?_
    refine K.draw_L [] Tryd_mixed ?_
    refine K.d_pure 0 rfl (K.move) (by kernel_rfl) rfl ?_
    refine zn ?_
    refine K.d_pure 1 rfl (K.move) (by kernel_rfl) rfl ?_
    refine zn ?_
    refine K.d_pure 2 rfl (K.move) (by kernel_rfl) rfl ?_
    refine zn ?_
    refine K.d_ix (M := []) 3 _ rfl hR.sl sl_22 rfl rfl rfl (by omega) (by kernel_rfl) rfl ?_
    intro p60 hp60
    refine zN ?_
    refine K.d_pure 4 rfl (K.fieldAddr fo_44_3 rfl) (by kernel_rfl) rfl ?_
    refine zn ?_
    refine K.d_mem 5 rfl (K.load1 one_3 rfl ((K.PtrL.fld hp60 (k := 3)).any)) (fun _ h => h) (by kernel_rfl) (by kernel_rfl) rfl ?_
    refine zN ?_
    refine K.d_pure 6 rfl (K.sub_i64 rfl rfl (by omega)) (by kernel_rfl) rfl ?_
    refine zn ?_
    refine K.d_pure 7 rfl (K.move) (by kernel_rfl) rfl ?_
    refine zn ?_
    refine K.d_pure 8 rfl (K.move) (by kernel_rfl) rfl ?_
    refine zn ?_
    refine K.d_ix (M := []) 9 _ rfl hR.sl sl_22 rfl rfl rfl (by omega) (by kernel_rfl) rfl ?_
    intro p66 hp66
    refine zN ?_
    refine K.d_pure 10 rfl (K.fieldAddr fo_44_3 rfl) (by kernel_rfl) rfl ?_
    refine zn ?_
    refine K.d_mem 11 rfl (K.load1 one_3 rfl ((K.PtrL.fld hp66 (k := 3)).any)) (fun _ h => h) (by kernel_rfl) (by kernel_rfl) rfl ?_
    refine zN ?_
    refine K.d_pure 12 rfl (K.move) (by kernel_rfl) rfl ?_
    refine zn ?_
    refine K.d_pure 13 rfl (K.sub_i64 rfl rfl (by omega)) (by kernel_rfl) rfl ?_
    refine zn ?_
    refine K.d_pure 14 rfl (K.Pure.eq (K.max_int rfl rfl) (show _ = Value.int .i64 (ownC r i (lv.getD m default)) from rfl)) (by kernel_rfl) rfl ?_
    refine zn ?_
    refine K.d_pure 15 rfl (K.assign) (by kernel_rfl) rfl ?_
    refine zn ?_
    refine K.d_done (by kernel_rfl) ?_
    refine K.norm_then ?_
    refine K.seqJ [16] [72, 73, 74, 75, 76, 77, 78, 79, 80, 81, 82, 83, 84, 85, 86, 87, 88] (fun vi L => vi = [.int .i64 (ownR r lv fx i m)] ∧ L = [K.row (.slice QO ((List.range m).map fun m => sumR (rcL r lv fx f) r lv fx i m (chL r i r.length)).length qo) 3 1 ((List.range m).map fun m => sumR (rcL r lv fx f) r lv fx i m (chL r i r.length)).length (((List.range m).map fun m => sumR (rcL r lv fx f) r lv fx i m (chL r i r.length)).flatMap K.eI), K.row (.slice Q1 vs.length q1) 26 1 vs.length (vs.flatMap K.eV), K.inn F vs ((chL r i r.length).map (rcL r lv fx f))]) ?_ ?_
    · refine K.seq ?_
      refine K.joinW [88] [72, 73, 74, 75, 76, 77, 78, 79, 80, 81, 82, 83, 84, 85, 86, 87] (fun vi L => vi = [.bool (decide (¬ ((0 ≤ (lv.getD m default) + DM r i ∧ (lv.getD m default) + DM r i ≤ 9000) ∧ (i < fx.length → fx.getD i default = (lv.getD m default) + DM r i))))] ∧ L = [K.row (.slice QO ((List.range m).map fun m => sumR (rcL r lv fx f) r lv fx i m (chL r i r.length)).length qo) 3 1 ((List.range m).map fun m => sumR (rcL r lv fx f) r lv fx i m (chL r i r.length)).length (((List.range m).map fun m => sumR (rcL r lv fx f) r lv fx i m (chL r i r.length)).flatMap K.eI), K.row (.slice Q1 vs.length q1) 26 1 vs.length (vs.flatMap K.eV), K.inn F vs ((chL r i r.length).map (rcL r lv fx f))]) ?_ ?_
      · refine K.region_lit ?_
        refine qm ?_
        refine K.seq_call (K.call_g cal_49 (fun F w hF hw => c49 w)) rfl ?_
        refine zN ?_
        first | refine K.seq_pure (K.not_d rfl) rfl ?_ | refine K.seq_pure (K.not_ rfl) rfl ?_
        refine zN ?_
        refine qm ?_
        refine K.split 75 rfl (fun hg75 => ?_) (fun hg75 => ?_)
        · try replace hg75 := of_decide_eq_true hg75
          iterate 12 refine qs ?_
          refine qp (K.pick_t rfl) ?_
          refine K.seq_nil ?_
          have hnb : ¬ (0 ≤ ((lv.getD m default) + DM r i) ∧ ((lv.getD m default) + DM r i) ≤ 9000) := by simpa using hg75
          have ev13 : true = decide (¬ ((0 ≤ (lv.getD m default) + DM r i ∧ (lv.getD m default) + DM r i ≤ 9000) ∧ (i < fx.length → fx.getD i default = (lv.getD m default) + DM r i))) := by
            symm
            rw [decide_eq_true_iff]
            exact fun h => hnb h.1
          exact K.join_here (L' := [K.row (.slice QO ((List.range m).map fun m => sumR (rcL r lv fx f) r lv fx i m (chL r i r.length)).length qo) 3 1 ((List.range m).map fun m => sumR (rcL r lv fx f) r lv fx i m (chL r i r.length)).length (((List.range m).map fun m => sumR (rcL r lv fx f) r lv fx i m (chL r i r.length)).flatMap K.eI), K.row (.slice Q1 vs.length q1) 26 1 vs.length (vs.flatMap K.eV), K.inn F vs ((chL r i r.length).map (rcL r lv fx f))]) [.bool true] ⟨by rw [← ev13], rfl⟩ (fun w h => h) (by kernel_rfl)
        try replace hg75 := of_decide_eq_false hg75
        iterate 2 refine qm ?_
        refine qp (K.len_sl sl_26 rfl) ?_
        refine qp (K.lss rfl rfl) ?_
        refine qm ?_
        refine K.split 80 rfl (fun hg80 => ?_) (fun hg80 => ?_)
        · try replace hg80 := of_decide_eq_true hg80
          iterate 2 refine qm ?_
          refine K.seq_ix (M := []) _ hF0.sl sl_26 rfl rfl rfl (by omega) rfl ?_
          intro p83 hp83
          refine zN ?_
          refine K.seq_sil (K.load1 one_3 rfl (hp83.any)) rfl ?_
          refine zN ?_
          refine qm ?_
          refine qp (K.neq rfl rfl) ?_
          refine qp (K.pick_t rfl) ?_
          refine qp (K.pick_f rfl) ?_
          refine K.seq_nil ?_
          have hbx : 0 ≤ ((lv.getD m default) + DM r i) ∧ ((lv.getD m default) + DM r i) ≤ 9000 := by simpa using hg75
          have ev13 : (decide (fx.getD i default ≠ (lv.getD m default) + DM r i)) = decide (¬ ((0 ≤ (lv.getD m default) + DM r i ∧ (lv.getD m default) + DM r i ≤ 9000) ∧ (i < fx.length → fx.getD i default = (lv.getD m default) + DM r i))) := by
            rw [decide_eq_decide]
            exact ⟨fun h h2 => h (h2.2 (by omega)), fun h h2 => h ⟨hbx, fun _ => h2⟩⟩
          exact K.join_here (L' := [K.row (.slice QO ((List.range m).map fun m => sumR (rcL r lv fx f) r lv fx i m (chL r i r.length)).length qo) 3 1 ((List.range m).map fun m => sumR (rcL r lv fx f) r lv fx i m (chL r i r.length)).length (((List.range m).map fun m => sumR (rcL r lv fx f) r lv fx i m (chL r i r.length)).flatMap K.eI), K.row (.slice Q1 vs.length q1) 26 1 vs.length (vs.flatMap K.eV), K.inn F vs ((chL r i r.length).map (rcL r lv fx f))]) [.bool (decide (fx.getD i default ≠ (lv.getD m default) + DM r i))] ⟨by rw [ev13], rfl⟩ (fun w h => h) (by kernel_rfl)
        try replace hg80 := of_decide_eq_false hg80
        iterate 6 refine qs ?_
        refine qp (K.pick_f rfl) ?_
        refine qp (K.pick_f rfl) ?_
        refine K.seq_nil ?_
        have hbx : 0 ≤ ((lv.getD m default) + DM r i) ∧ ((lv.getD m default) + DM r i) ≤ 9000 := by simpa using hg75
        have ev13 : false = decide (¬ ((0 ≤ (lv.getD m default) + DM r i ∧ (lv.getD m default) + DM r i ≤ 9000) ∧ (i < fx.length → fx.getD i default = (lv.getD m default) + DM r i))) := by
          symm
          rw [decide_eq_false_iff_not]
          exact fun h => h ⟨hbx, fun h2 => absurd h2 (by omega)⟩
        exact K.join_here (L' := [K.row (.slice QO ((List.range m).map fun m => sumR (rcL r lv fx f) r lv fx i m (chL r i r.length)).length qo) 3 1 ((List.range m).map fun m => sumR (rcL r lv fx f) r lv fx i m (chL r i r.length)).length (((List.range m).map fun m => sumR (rcL r lv fx f) r lv fx i m (chL r i r.length)).flatMap K.eI), K.row (.slice Q1 vs.length q1) 26 1 vs.length (vs.flatMap K.eV), K.inn F vs ((chL r i r.length).map (rcL r lv fx f))]) [.bool false] ⟨by rw [← ev13], rfl⟩ (fun w h => h) (by kernel_rfl)
      intro vi vr L hJ
      obtain ⟨rfl, rfl⟩ := hJ
      try dsimp only [setd, setn, ev, nth, over, cl, eI, eP, eT, eR, setM, setF, List.map, List.append, List.drop, List.take]
      refine K.norm_then ?_
      refine K.cond rfl (fun ht88 => ?_) (fun ht88 => ?_)
      · try replace ht88 := of_decide_eq_true ht88
        refine K.region_lit ?_
        refine qa ?_
        refine K.seq_nil ?_
        have ev15 : neverR = (ownR r lv fx i m) := by unfold ownR; rw [if_neg ht88]
        exact K.join_here (L' := [K.row (.slice QO ((List.range m).map fun m => sumR (rcL r lv fx f) r lv fx i m (chL r i r.length)).length qo) 3 1 ((List.range m).map fun m => sumR (rcL r lv fx f) r lv fx i m (chL r i r.length)).length (((List.range m).map fun m => sumR (rcL r lv fx f) r lv fx i m (chL r i r.length)).flatMap K.eI), K.row (.slice Q1 vs.length q1) 26 1 vs.length (vs.flatMap K.eV), K.inn F vs ((chL r i r.length).map (rcL r lv fx f))]) [.int .i64 1073741824] ⟨by rw [← ev15] <;> rfl, rfl⟩ (fun w h => h) (by kernel_rfl)
      try replace ht88 := of_decide_eq_false ht88
      refine K.skip ?_
      have ev15 : ownC r i (lv.getD m default) = (ownR r lv fx i m) := by unfold ownR; rw [if_pos (Classical.byContradiction ht88)]
      exact K.join_here (L' := [K.row (.slice QO ((List.range m).map fun m => sumR (rcL r lv fx f) r lv fx i m (chL r i r.length)).length qo) 3 1 ((List.range m).map fun m => sumR (rcL r lv fx f) r lv fx i m (chL r i r.length)).length (((List.range m).map fun m => sumR (rcL r lv fx f) r lv fx i m (chL r i r.length)).flatMap K.eI), K.row (.slice Q1 vs.length q1) 26 1 vs.length (vs.flatMap K.eV), K.inn F vs ((chL r i r.length).map (rcL r lv fx f))]) [.int .i64 (ownC r i (lv.getD m default))] ⟨by rw [← ev15] <;> rfl, rfl⟩ (fun w h => h) (by kernel_rfl)
    intro vi vr L hJ
    obtain ⟨rfl, rfl⟩ := hJ
    try dsimp only [setd, setn, ev, nth, over, cl, eI, eP, eT, eR, setM, setF, List.map, List.append, List.drop, List.take]
    refine K.seq ?_
    refine sr ?_
    refine qa ?_
    refine sn ?_
    refine K.block ?_
    refine K.loopW [16, 17] [18, 19, 89, 90, 91, 92, 93, 94, 95, 96, 97, 98, 99, 100, 101, 102, 103, 104, 105, 106, 107, 108, 109, 110, 111, 112, 113, 114] (fun vi L => ∃ a : Nat, vi = [.int .i64 (sumR (rcL r lv fx f) r lv fx i m ((chL r i r.length).take a)), .int .i64 (a : Int)] ∧ L = [K.row (.slice QO ((List.range m).map fun m => sumR (rcL r lv fx f) r lv fx i m (chL r i r.length)).length qo) 3 1 ((List.range m).map fun m => sumR (rcL r lv fx f) r lv fx i m (chL r i r.length)).length (((List.range m).map fun m => sumR (rcL r lv fx f) r lv fx i m (chL r i r.length)).flatMap K.eI), K.row (.slice Q1 vs.length q1) 26 1 vs.length (vs.flatMap K.eV), K.inn F vs ((chL r i r.length).map (rcL r lv fx f))] ∧ a ≤ (chL r i r.length).length) (fun vi => (chL r i r.length).length - (intOf (K.nth vi 1)).toNat) ?_ ?_
    · exact ⟨0, rfl, rfl, Nat.zero_le _⟩
    intro vi vr L hJ
    obtain ⟨a, rfl, rfl, han⟩ := hJ
    try dsimp only [setd, setn, ev, nth, over, cl, eI, eP, eT, eR, setM, setF, List.map, List.append, List.drop, List.take]
    refine K.seq ?_
    refine sr ?_
    iterate 2 refine qm ?_
    refine qp (K.len_sl sl_50 rfl) ?_
    refine qp (K.lss rfl rfl) ?_
    refine sn ?_
    refine K.cond rfl (fun ht92 => ?_) (fun ht92 => ?_)
    · try replace ht92 := of_decide_eq_true ht92
      have ha : a < (chL r i r.length).length := by omega
      have hsb := sumR_bd (ks := (chL r i r.length).take a) (ownR_bd (lv := lv) (fx := fx) (m := m) g hi) hbn
      have hzz : ((chL r i r.length).map (rcL r lv fx f)).getD a default = ((rcL r lv fx f) ((chL r i r.length).getD a default)) := by rw [List.getD_eq_getElem?_getD, List.getElem?_map, List.getD_eq_getElem?_getD, List.getElem?_eq_getElem ha]; rfl
      have hcm := ch_mem.1 (K.gt_mem ha)
      have hcd := dn_dep g hcm.1 hcm.2
      have hcl2 := dep_lt g hcm.1
      have hzl : ((rcL r lv fx f) ((chL r i r.length).getD a default)).length = lv.length := rc_len' (by omega)
      have hzl2 : (((chL r i r.length).map (rcL r lv fx f)).getD a default).length = lv.length := by rw [hzz]; exact hzl
      refine K.use_innS (i := a) K.m2 (by rw [List.length_map]; exact ha) (fun A3 c3 hv3 hsl => ?_)
      refine K.skip ?_
      refine K.norm_then ?_
      refine K.seq ?_
      refine K.block ?_
      refine sr ?_
      refine qa ?_
      refine sn ?_
      refine K.seq ?_
      refine sr ?_
      refine qm ?_
      refine qa ?_
      refine sn ?_
      refine K.block ?_
      refine K.loopW [18, 19] [96, 97, 98, 99, 100, 101, 102, 103, 104, 105, 106, 107, 108, 109, 110] (fun vi L => ∃ j : Nat, vi = [.int .i64 (bfF ((rcL r lv fx f) ((chL r i r.length).getD a default)) m j), .int .i64 ((m + j : Nat) : Int)] ∧ L = [K.row (.slice QO ((List.range m).map fun m => sumR (rcL r lv fx f) r lv fx i m (chL r i r.length)).length qo) 3 1 ((List.range m).map fun m => sumR (rcL r lv fx f) r lv fx i m (chL r i r.length)).length (((List.range m).map fun m => sumR (rcL r lv fx f) r lv fx i m (chL r i r.length)).flatMap K.eI), K.row (.slice Q1 vs.length q1) 26 1 vs.length (vs.flatMap K.eV), K.inn F vs ((chL r i r.length).map (rcL r lv fx f))] ∧ m + j ≤ lv.length) (fun vi => lv.length - (intOf (K.nth vi 1)).toNat) ?_ ?_
      · exact ⟨0, rfl, rfl, by omega⟩
      intro vi vr L hJ
      obtain ⟨j, rfl, rfl, hjn⟩ := hJ
      try dsimp only [setd, setn, ev, nth, over, cl, eI, eP, eT, eR, setM, setF, List.map, List.append, List.drop, List.take]
      refine K.seq ?_
      refine sr ?_
      iterate 2 refine qm ?_
      refine qp (K.len_sl sl_26 rfl) ?_
      refine qp (K.lss rfl rfl) ?_
      refine sn ?_
      refine K.cond rfl (fun ht99 => ?_) (fun ht99 => ?_)
      · try replace ht99 := of_decide_eq_true ht99
        have hj : m + j < lv.length := by omega
        refine K.skip ?_
        refine K.norm_then ?_
        refine K.seq ?_
        refine K.block ?_
        refine K.region_lit ?_
        iterate 3 refine qm ?_
        refine K.seq_ix (M := [K.row (.slice Q1 vs.length q1) 26 1 vs.length (vs.flatMap K.eV)]) _ (K.Sl.own (w0 := w) (t := 26) (c := q1) (size := 1) (e := K.eV) hA1 (fun _ => rfl)) sl_50 rfl rfl rfl (by omega) rfl ?_
        intro p105 hp105
        refine zN ?_
        refine K.seq_sil ((K.load1 one_26 rfl (hp105.at1 (K.m1))).cast hv3) rfl ?_
        refine zN ?_
        refine qm ?_
        refine K.seq_ix (M := [K.inn F vs ((chL r i r.length).map (rcL r lv fx f))]) (m + j) hsl sl_26 rfl rfl (by omega) (by omega) rfl ?_
        intro p108 hp108
        refine zN ?_
        refine K.seq_sil (K.load1 one_3 rfl (hp108.at1 (K.m2))) rfl ?_
        refine zN ?_
        refine qp (K.Pure.eq (K.min_int rfl rfl) (show _ = Value.int .i64 (bfF ((rcL r lv fx f) ((chL r i r.length).getD a default)) m (j + 1)) from congrArg (Value.int .i64) (by rw [bfF, ← hzz]))) ?_
        refine qa ?_
        refine K.seq_nil ?_
        refine K.norm_block ?_
        refine K.norm_then ?_
        refine K.region_lit ?_
        refine qm ?_
        refine qp (K.add_i64 rfl rfl (by omega)) ?_
        refine qa ?_
        refine K.seq_nil ?_
        exact K.round_endW (L'' := [K.row (.slice QO ((List.range m).map fun m => sumR (rcL r lv fx f) r lv fx i m (chL r i r.length)).length qo) 3 1 ((List.range m).map fun m => sumR (rcL r lv fx f) r lv fx i m (chL r i r.length)).length (((List.range m).map fun m => sumR (rcL r lv fx f) r lv fx i m (chL r i r.length)).flatMap K.eI), K.row (.slice Q1 vs.length q1) 26 1 vs.length (vs.flatMap K.eV), K.inn F vs ((chL r i r.length).map (rcL r lv fx f))]) [.int .i64 (bfF ((rcL r lv fx f) ((chL r i r.length).getD a default)) m (j + 1)), .int .i64 (((m + j : Nat) : Int) + 1)] ⟨j + 1, rfl, rfl, by omega⟩ (by simp [K.nth, intOf]; omega) (List.Sublist.refl _) (by kernel_rfl)
      try replace ht99 := of_decide_eq_false ht99
      have ej : j = lv.length - m := by omega
      subst ej
      have hb1 := hbn ((chL r i r.length).getD a default)
      have hb2 := bf_n (c := ((rcL r lv fx f) ((chL r i r.length).getD a default))) (m := m) (lv.length - m)
      refine K.exit ?_
      refine K.exit_then ?_
      refine K.exit_then ?_
      refine K.exit_here ?_
      refine K.norm_then ?_
      refine K.region_lit ?_
      iterate 2 refine qm ?_
      refine qp (K.add_i64 rfl rfl (by omega)) ?_
      refine qp (K.Pure.eq (K.min_int rfl rfl) (show _ = Value.int .i64 (sumR (rcL r lv fx f) r lv fx i m ((chL r i r.length).take (a + 1))) from congrArg (Value.int .i64) (by rw [sumR_t ha] <;> rfl))) ?_
      refine qa ?_
      refine K.seq_nil ?_
      refine K.norm_block ?_
      refine K.norm_then ?_
      refine K.region_lit ?_
      refine qm ?_
      refine qp (K.add_i64 rfl rfl (by omega)) ?_
      refine qa ?_
      refine K.seq_nil ?_
      exact K.round_endW (L'' := [K.row (.slice QO ((List.range m).map fun m => sumR (rcL r lv fx f) r lv fx i m (chL r i r.length)).length qo) 3 1 ((List.range m).map fun m => sumR (rcL r lv fx f) r lv fx i m (chL r i r.length)).length (((List.range m).map fun m => sumR (rcL r lv fx f) r lv fx i m (chL r i r.length)).flatMap K.eI), K.row (.slice Q1 vs.length q1) 26 1 vs.length (vs.flatMap K.eV), K.inn F vs ((chL r i r.length).map (rcL r lv fx f))]) [.int .i64 (sumR (rcL r lv fx f) r lv fx i m ((chL r i r.length).take (a + 1))), .int .i64 ((a : Int) + 1)] ⟨a + 1, rfl, rfl, by omega⟩ (by simp [K.nth, intOf]; omega) (List.Sublist.refl _) (by kernel_rfl)
    try replace ht92 := of_decide_eq_false ht92
    have e0 : a = (chL r i r.length).length := by omega
    subst e0
    refine K.exit ?_
    refine K.exit_then ?_
    refine K.exit_then ?_
    refine K.exit_here ?_
    refine K.norm_then ?_
    refine K.region_lit ?_
    iterate 2 refine qm ?_
    refine K.seq_new (K.buildSlice (bs1 _)) rfl ?_
    intro b117
    refine zN ?_
    refine K.seq_upd (K.append el_26 rfl rfl (K.PtrL.own' (K.m0)) rfl rfl (by decide) (by omega) (by omega) (fun _ _ => K.rp1)) rfl ?_
    rintro ⟨g118, c118⟩ _
    refine zN ?_
    refine qa ?_
    refine K.seq_nil ?_
    refine K.norm_block ?_
    refine K.norm_then ?_
    refine K.region_lit ?_
    refine qm ?_
    refine qp (K.add_i64 rfl rfl (by omega)) ?_
    refine qa ?_
    refine K.seq_nil ?_
    have hos : ((List.range (m + 1)).map fun m => sumR (rcL r lv fx f) r lv fx i m (chL r i r.length)) = ((List.range m).map fun m => sumR (rcL r lv fx f) r lv fx i m (chL r i r.length)) ++ [(sumR (rcL r lv fx f) r lv fx i m ((chL r i r.length).take (chL r i r.length).length))] := by rw [List.take_length]; exact map_s
    exact K.round_endW (L'' := [K.row (.slice (some ⟨g118, 0, none⟩) (((List.range m).map fun m => sumR (rcL r lv fx f) r lv fx i m (chL r i r.length)).length + 1) c118) 3 1 (((List.range m).map fun m => sumR (rcL r lv fx f) r lv fx i m (chL r i r.length)).length + 1) (((List.range m).map fun m => sumR (rcL r lv fx f) r lv fx i m (chL r i r.length)).flatMap K.eI ++ [.int .i64 (sumR (rcL r lv fx f) r lv fx i m ((chL r i r.length).take (chL r i r.length).length))]), K.row (.slice Q1 vs.length q1) 26 1 vs.length (vs.flatMap K.eV), K.inn F vs ((chL r i r.length).map (rcL r lv fx f))]) [.slice (some ⟨g118, 0, none⟩) (((List.range m).map fun m => sumR (rcL r lv fx f) r lv fx i m (chL r i r.length)).length + 1) c118, .int .i64 ((m : Int) + 1)] ⟨m + 1, some ⟨g118, 0, none⟩, c118, by rw [hos, List.length_append] <;> rfl, by rw [hos, List.length_append, List.flatMap_append] <;> rfl, by omega⟩ (by simp [K.nth, intOf]; omega) (List.Sublist.cons _ (List.Sublist.refl _)) (by kernel_rfl)
  try replace ht45 := of_decide_eq_false ht45
  refine K.exit ?_
  refine K.exit_then ?_
  refine K.exit_then ?_
  refine K.exit_here ?_
  refine K.norm_then ?_
  refine sr ?_
  refine qm ?_
  refine qa ?_
  refine sn ?_
  refine K.ret ?_
  refine K.end_ret (fun w _ => K.res_tmp rfl w) ?_
  have e0 : m = lv.length := by omega
  subst e0
  exact K.rets_s K.m0 rfl rfl rfl

theorem c95 {r : List RvT} {A : Option Addr} {c : Nat} {QA QF : Option Addr} {ca cf : Nat} {lv fx : List Int} (g : Good r) (hlv : ∀ m, m < lv.length → -4500 ≤ lv.getD m default ∧ lv.getD m default ≤ 9000) (hll : lv.length ≤ 19) (hfl : fx.length ≤ 9) : ∀ (f : Nat) {i : Nat} {w : World}, i < r.length → dep r i + f = r.length + 1 → K.Rd w A 4 eR r → K.Rd w QA 1 K.eI lv → K.Rd w QF 1 K.eI fx → Calls Tryd.prog 95 [.slice A r.length c, .int .i64 ((mthS r : Nat) : Int), .int .i64 (i : Int), .slice QA lv.length ca, .slice QF fx.length cf].toArray w (K.RetS 3 1 K.eI (rcL r lv fx f i) w)
  | 0, i, _, hi, hd, _, _, _ => by have := dep_lt g hi; omega
  | f + 1, i, _, hi, hd, hR, hA, hF => s95 hR g hi hA hF hlv hll hfl hd (fun h1 h2 h3 h4 h5 => c95 g hlv hll hfl f h1 h2 h3 h4 h5)


set_option maxRecDepth 100000 in
theorem c79 {r : List RvT} {A : Option Addr} {c : Nat} {QA QF : Option Addr} {ca cf : Nat} {lv fx : List Int} {w : World} (hR : K.Rd w A 4 eR r) (g : Good r) (hA : K.Rd w QA 1 K.eI lv) (hF0 : K.Rd w QF 1 K.eI fx) (hlv : ∀ m, m < lv.length → -4500 ≤ lv.getD m default ∧ lv.getD m default ≤ 9000) (hll : lv.length ≤ 19) (hfl : fx.length ≤ 9) :
    Calls Tryd.prog 79 [.slice A r.length c, .int .i64 ((mthS r : Nat) : Int), .slice QA lv.length ca, .slice QF fx.length cf].toArray w (K.Gives (.int .i64 (bstR r lv fx)) w) := by
  have hgn := g.n
  have hm := mth_is g
  have hd0 := (dep_m g hm.1).2 hm.2.1
  have hrl : (rcL r lv fx (r.length + 1) (mthS r)).length = lv.length := rc_len
  refine K.enter (args := [.slice A r.length c, .int .i64 ((mthS r : Nat) : Int), .slice QA lv.length ca, .slice QF fx.length cf]) Tryd.func79 rfl (n := 27) rfl ?_
  simp only [List.replicate, List.cons_append, List.nil_append]
  refine sr ?_
  refine qa ?_
  refine sn ?_
  refine sr ?_
  refine qa ?_
  refine sn ?_
  refine sr ?_
  iterate 5 refine qm ?_
  refine K.seq_loud (K.call_f cal_95 (fun F w hF hw => c95 g hlv hll hfl (r.length + 1) hm.1 (by omega) (hR.pass hw) (hA.pass hw) (hF0.pass hw))) rfl ?_
  rintro ⟨Q17, c17⟩ hq17
  refine zN ?_
  refine qa ?_
  refine sn ?_
  refine K.seq ?_
  refine sr ?_
  refine qa ?_
  refine sn ?_
  refine K.block ?_
  refine K.loopW [9, 11] [18, 19, 20, 21, 22, 23, 24, 25, 26, 27, 28, 29] (fun vi L => ∃ m : Nat, vi = [.int .i64 (bstF (rcL r lv fx (r.length + 1) (mthS r)) m), .int .i64 (m : Int)] ∧ L = [K.row (.slice Q17 (rcL r lv fx (r.length + 1) (mthS r)).length c17) 3 1 (rcL r lv fx (r.length + 1) (mthS r)).length ((rcL r lv fx (r.length + 1) (mthS r)).flatMap K.eI)] ∧ m ≤ lv.length) (fun vi => lv.length - (intOf (K.nth vi 1)).toNat) ?_ ?_
  · exact ⟨0, rfl, rfl, Nat.zero_le _⟩
  intro vi vr L hJ
  obtain ⟨m, rfl, rfl, hmn⟩ := hJ
  try dsimp only [setd, setn, ev, nth, over, cl, eI, eP, eT, eR, setM, setF, List.map, List.append, List.drop, List.take]
  refine K.seq ?_
  refine sr ?_
  iterate 2 refine qm ?_
  refine qp (K.len_sl sl_26 rfl) ?_
  refine qp (K.lss rfl rfl) ?_
  refine sn ?_
  refine K.cond rfl (fun ht21 => ?_) (fun ht21 => ?_)
  · try replace ht21 := of_decide_eq_true ht21
    have hk : m < lv.length := by omega
    refine K.skip ?_
    refine K.norm_then ?_
    refine K.seq ?_
    refine K.block ?_
    refine K.region_lit ?_
    iterate 3 refine qm ?_
    refine K.seq_ix (M := [K.row (.slice Q17 (rcL r lv fx (r.length + 1) (mthS r)).length c17) 3 1 (rcL r lv fx (r.length + 1) (mthS r)).length ((rcL r lv fx (r.length + 1) (mthS r)).flatMap K.eI)]) _ (K.Sl.own (w0 := w) (t := 3) (c := c17) (e := K.eI) hq17 (fun _ => rfl)) sl_26 rfl rfl rfl (by omega) rfl ?_
    intro p27 hp27
    refine zN ?_
    refine K.seq_sil (K.load1 one_3 rfl (hp27.at1 (K.m0))) rfl ?_
    refine zN ?_
    refine qp (K.min_int rfl rfl) ?_
    refine qa ?_
    refine K.seq_nil ?_
    refine K.norm_block ?_
    refine K.norm_then ?_
    refine K.region_lit ?_
    refine qm ?_
    refine qp (K.add_i64 rfl rfl (by omega)) ?_
    refine qa ?_
    refine K.seq_nil ?_
    exact K.round_endW (L'' := [K.row (.slice Q17 (rcL r lv fx (r.length + 1) (mthS r)).length c17) 3 1 (rcL r lv fx (r.length + 1) (mthS r)).length ((rcL r lv fx (r.length + 1) (mthS r)).flatMap K.eI)]) [.int .i64 (bstF (rcL r lv fx (r.length + 1) (mthS r)) (m + 1)), .int .i64 ((m : Int) + 1)] ⟨m + 1, rfl, rfl, by omega⟩ (by simp [K.nth, intOf]; omega) (List.Sublist.refl _) (by kernel_rfl)
  try replace ht21 := of_decide_eq_false ht21
  refine K.exit ?_
  refine K.exit_then ?_
  refine K.exit_then ?_
  refine K.exit_here ?_
  refine K.norm_then ?_
  refine sr ?_
  refine qm ?_
  refine qa ?_
  refine sn ?_
  refine K.ret ?_
  refine K.end_ret (fun w _ => K.res_tmp rfl w) ?_
  have e0 : m = lv.length := by omega
  subst e0
  exact K.gives rfl

end Go.Proofs.YtoemnobfnnjopaaDoor
end
section
set_option linter.unusedSimpArgs false
set_option linter.unusedVariables false
namespace Go.Proofs.YtoemnobfnnjopaaDoor
open Go.RowKit Go
open Go.K (setd setn ev nth over cl eI eP eT setM setF)
attribute [local irreducible] K.blk K.row

set_option maxRecDepth 100000 in
theorem e33 {r : List RvT} {A : Option Addr} {c : Nat} {w : World} (hR : K.Rd w A 4 eR r) (hn : r.length ≤ 4611686018427387904) (hc : (chk r).2.2 ≠ 0) :
    Calls Tryd.prog 33 [.slice A r.length c].toArray w (RetI (lstC r) (lstL r) (chk r).2.2 w) := by
  refine K.enter (args := [.slice A r.length c]) Tryd.func33 rfl (n := 82) rfl ?_
  simp only [List.replicate, List.cons_append, List.nil_append]
  refine sr ?_
  iterate 3 refine qa ?_
  refine sn ?_
  refine sr ?_
  refine qm ?_
  refine K.seq_call (K.call_g cal_15 (fun F w hF hw => c15 (hR.pass hw) hn)) rfl ?_
  refine zN ?_
  refine qm ?_
  refine qx ?_
  refine qx ?_
  refine qx ?_
  iterate 3 refine qa ?_
  refine sn ?_
  refine K.seq ?_
  refine sr ?_
  refine qm ?_
  refine qp (K.neq rfl rfl) ?_
  refine sn ?_
  refine K.cond_true (by exact congrArg Value.bool (decide_eq_true hc)) ?_
  refine sr ?_
  refine qm ?_
  iterate 3 refine qa ?_
  refine sn ?_
  refine K.ret ?_
  refine K.ret_then ?_
  refine K.end_ret (fun w _ => K.res_ttt rfl w) ?_
  exact reti_0 (by unfold lstL; rw [if_pos hc]) (by unfold lstC; rw [if_pos hc]) rfl rfl

set_option maxRecDepth 100000 in
set_option maxHeartbeats 2000000 in
theorem g33 {r : List RvT} {A : Option Addr} {c : Nat} {w : World} (hR : K.Rd w A 4 eR r) (hn : r.length ≤ 4611686018427387904) (hc : (chk r).2.2 = 0) :
    Calls Tryd.prog 33 [.slice A r.length c].toArray w (RetI (lstC r) (lstL r) (chk r).2.2 w) := by
  have g : Good r := chk_good hc
  have hgn := g.n
  have hmt := mth_is g
  have hll := levR_len g
  have hb0 := best_0 g
  refine K.enter (args := [.slice A r.length c]) Tryd.func33 rfl (n := 82) rfl ?_
  simp only [List.replicate, List.cons_append, List.nil_append]
  refine sr ?_
  iterate 3 refine qa ?_
  refine sn ?_
  refine sr ?_
  refine qm ?_
  refine K.seq_call (K.call_g cal_15 (fun F w hF hw => c15 (hR.pass hw) hn)) rfl ?_
  refine zN ?_
  refine qm ?_
  refine qx ?_
  refine qx ?_
  refine qx ?_
  iterate 3 refine qa ?_
  refine sn ?_
  refine K.seq ?_
  refine sr ?_
  refine qm ?_
  refine qp (K.neq rfl rfl) ?_
  refine sn ?_
  refine K.cond_false (by exact congrArg Value.bool (decide_eq_false (by omega))) ?_
  refine K.skip ?_
  refine K.norm_then ?_
  refine sr ?_
  refine qa ?_
  refine sn ?_
  refine K.seq ?_
  refine sr ?_
  refine qa ?_
  refine sn ?_
  refine K.block ?_
  refine K.loopW [8, 9] [26, 27, 28, 29, 30, 31, 32, 33, 34, 35, 36, 37, 38] (fun vi L => ∃ i : Nat, vi = [.int .i64 (if mthS r < i then ((mthS r : Nat) : Int) else 0), .int .i64 (i : Int)] ∧ L = [] ∧ i ≤ r.length) (fun vi => r.length - (intOf (K.nth vi 1)).toNat) ?_ ?_
  · exact ⟨0, by rw [if_neg (Nat.not_lt_zero _)] <;> rfl, rfl, Nat.zero_le _⟩
  intro vi vr L hJ
  obtain ⟨i, rfl, rfl, hin⟩ := hJ
  try dsimp only [setd, setn, ev, nth, over, cl, eI, eP, eT, eR, setM, setF, List.map, List.append, List.drop, List.take]
  refine K.seq ?_
  refine sr ?_
  iterate 2 refine qm ?_
  refine qp (K.len_sl sl_22 rfl) ?_
  refine qp (K.lss rfl rfl) ?_
  refine sn ?_
  refine K.cond rfl (fun ht29 => ?_) (fun ht29 => ?_)
  · try replace ht29 := of_decide_eq_true ht29
    have hi : i < r.length := by omega
    refine K.skip ?_
    refine K.norm_then ?_
    refine K.seq ?_
    refine K.block ?_
    refine sr ?_
    iterate 2 refine qm ?_
    refine K.seq_ix (M := []) _ hR.sl sl_22 rfl rfl rfl (by omega) rfl ?_
    intro p34 hp34
    refine zN ?_
    refine qp (K.fieldAddr fo_44_1 rfl) ?_
    refine K.seq_sil (K.load1 one_3 rfl ((K.PtrL.fld hp34 (k := 1)).any)) rfl ?_
    refine zN ?_
    refine qp (K.eql rfl rfl) ?_
    refine sn ?_
    refine K.cond rfl (fun ht37 => ?_) (fun ht37 => ?_)
    · try replace ht37 := of_decide_eq_true ht37
      refine K.region_lit ?_
      refine qm ?_
      refine qa ?_
      refine K.seq_nil ?_
      refine K.norm_block ?_
      refine K.norm_then ?_
      refine K.region_lit ?_
      refine qm ?_
      refine qp (K.add_i64 rfl rfl (by omega)) ?_
      refine qa ?_
      refine K.seq_nil ?_
      have hmv : (i : Int) = (if mthS r < (i + 1) then ((mthS r : Nat) : Int) else 0) := by
        have hi2 := (mth_is g).2.2 i hi ht37
        rw [if_pos (by omega)]; omega
      exact K.round_endW (L'' := []) [.int .i64 (i : Int), .int .i64 ((i : Int) + 1)] ⟨i + 1, by rw [← hmv] <;> rfl, rfl, by omega⟩ (by simp [K.nth, intOf]; omega) (List.nil_sublist _) (by kernel_rfl)
    try replace ht37 := of_decide_eq_false ht37
    refine K.skip ?_
    refine K.norm_block ?_
    refine K.norm_then ?_
    refine K.region_lit ?_
    refine qm ?_
    refine qp (K.add_i64 rfl rfl (by omega)) ?_
    refine qa ?_
    refine K.seq_nil ?_
    have hmv : (if mthS r < i then ((mthS r : Nat) : Int) else 0) = (if mthS r < (i + 1) then ((mthS r : Nat) : Int) else 0) := by
      have hne : i ≠ mthS r := fun e => ht37 (by rw [e]; exact (mth_is g).2.1)
      by_cases h : mthS r < i
      · rw [if_pos h, if_pos (by omega)]
      · rw [if_neg h, if_neg (by omega)]
    exact K.round_endW (L'' := []) [.int .i64 (if mthS r < i then ((mthS r : Nat) : Int) else 0), .int .i64 ((i : Int) + 1)] ⟨i + 1, by rw [← hmv] <;> rfl, rfl, by omega⟩ (by simp [K.nth, intOf]; omega) (List.nil_sublist _) (by kernel_rfl)
  try replace ht29 := of_decide_eq_false ht29
  have e0 : i = r.length := by omega
  subst e0
  rw [if_pos hmt.1]
  refine K.exit ?_
  refine K.exit_then ?_
  refine K.exit_then ?_
  refine K.exit_here ?_
  refine K.norm_then ?_
  refine sr ?_
  iterate 2 refine qm ?_
  refine K.seq_loud (K.call_f cal_78 (fun F w hF hw => c78 (hR.pass hw) g)) rfl ?_
  rintro ⟨Q1, q1⟩ hq1
  refine zN ?_
  refine qa ?_
  refine sn ?_
  refine sr ?_
  iterate 3 refine qm ?_
  refine K.seq_call (K.call_g cal_79 (fun F w hF hw => (by have hA := (K.Rd.own (e := K.eI) (xs := (levR r)) hw (hF _ (K.m0)) hq1 (fun _ => rfl) (by decide)); have hg := c79 (c := c) (ca := q1) (cf := 0) (fx := []) (hR.pass hw) g hA rd_nil (fun m hm => levR_bd g (K.gt_mem hm)) hll (Nat.zero_le _); rw [hb0] at hg; exact hg))) rfl ?_
  refine zN ?_
  refine qa ?_
  refine sn ?_
  refine sr ?_
  refine K.nil_row (e := 3) (size := 1) ?_
  refine qa ?_
  refine sn ?_
  refine K.seq ?_
  refine sr ?_
  refine qa ?_
  refine sn ?_
  refine K.block ?_
  refine K.loopW [12, 13] [14, 15, 16, 46, 47, 48, 49, 50, 51, 52, 53, 54, 55, 56, 57, 58, 59, 60, 61, 62, 63, 64, 65, 66, 67, 68, 69, 70, 71, 72, 73, 74, 75, 76, 77, 78, 79, 80] (fun vi L => ∃ (i : Nat) (QH : Option Addr) (qh : Nat), vi = [.slice QH (hgtF r (chgS r) i).length qh, .int .i64 (i : Int)] ∧ L = [K.row (.slice QH (hgtF r (chgS r) i).length qh) 3 1 (hgtF r (chgS r) i).length ((hgtF r (chgS r) i).flatMap K.eI), K.row (.slice Q1 (levR r).length q1) 3 1 (levR r).length ((levR r).flatMap K.eI)] ∧ i ≤ r.length) (fun vi => r.length - (intOf (K.nth vi 1)).toNat) ?_ ?_
  · exact ⟨0, none, 0, rfl, rfl, Nat.zero_le _⟩
  intro vi vr L hJ
  obtain ⟨i, QH, qh, rfl, rfl, hin⟩ := hJ
  try dsimp only [setd, setn, ev, nth, over, cl, eI, eP, eT, eR, setM, setF, List.map, List.append, List.drop, List.take]
  refine K.seq ?_
  refine sr ?_
  iterate 2 refine qm ?_
  refine qp (K.len_sl sl_22 rfl) ?_
  refine qp (K.lss rfl rfl) ?_
  refine sn ?_
  refine K.cond rfl (fun ht49 => ?_) (fun ht49 => ?_)
  · try replace ht49 := of_decide_eq_true ht49
    have hi : i < r.length := by omega
    have hgr := hgt_ref g hi
    have hgl := hgt_len (r := r) (ch := chgS r) i
    have hdm := DM_le g hi
    refine K.skip ?_
    refine K.norm_then ?_
    refine K.seq ?_
    refine K.block ?_
    refine sr ?_
    iterate 3 refine qm ?_
    refine K.seq_call (K.call_g cal_37 (fun F w hF hw => (by have hg := c37 (c := c) (k := mthS r) (hR.pass hw) g hi; rw [drp_mth g hi] at hg; exact hg))) rfl ?_
    refine zN ?_
    refine qa ?_
    refine sn ?_
    refine sr ?_
    refine qa ?_
    refine sn ?_
    refine K.block ?_
    refine K.loopW [12, 15] [16, 56, 57, 58, 59, 60, 61, 62, 63, 64, 65, 66, 67, 68, 69, 70, 71, 72, 73, 74, 75, 76, 77, 78, 79, 80] (fun vi L => ∃ m : Nat, vi = [.slice QH (hgtF r (chgS r) i).length qh, .int .i64 (m : Int)] ∧ L = [K.row (.slice QH (hgtF r (chgS r) i).length qh) 3 1 (hgtF r (chgS r) i).length ((hgtF r (chgS r) i).flatMap K.eI), K.row (.slice Q1 (levR r).length q1) 3 1 (levR r).length ((levR r).flatMap K.eI)] ∧ m ≤ (levR r).length ∧ ∀ j, j < m → bstR r (levR r) ((hgtF r (chgS r) i) ++ [(levR r).getD j default + DM r i]) ≠ chgS r) (fun vi => (levR r).length - (intOf (K.nth vi 1)).toNat) ?_ ?_
    · exact ⟨0, rfl, rfl, Nat.zero_le _, fun j hj => absurd hj (Nat.not_lt_zero j)⟩
    intro vi vr L hJ
    obtain ⟨m, rfl, rfl, hmn, hno⟩ := hJ
    try dsimp only [setd, setn, ev, nth, over, cl, eI, eP, eT, eR, setM, setF, List.map, List.append, List.drop, List.take]
    refine K.seq ?_
    refine sr ?_
    iterate 2 refine qm ?_
    refine qp (K.len_sl sl_26 rfl) ?_
    refine qp (K.lss rfl rfl) ?_
    refine sn ?_
    refine K.cond rfl (fun ht59 => ?_) (fun ht59 => ?_)
    · try replace ht59 := of_decide_eq_true ht59
      have hm : m < (levR r).length := by omega
      have hlm := levR_bd g (K.gt_mem hm)
      refine K.skip ?_
      refine K.norm_then ?_
      refine K.seq ?_
      refine K.block ?_
      refine K.seq ?_
      refine K.joinW [16] [62, 63, 64, 65, 66, 67, 68, 69, 70, 71, 72] (fun vi L => ∃ G cG : Nat, vi = [.slice (some ⟨G, 0, none⟩) ((hgtF r (chgS r) i).length + 1) cG] ∧ L = [K.row (.slice (some ⟨G, 0, none⟩) ((hgtF r (chgS r) i).length + 1) cG) 3 1 ((hgtF r (chgS r) i).length + 1) ((hgtF r (chgS r) i).flatMap K.eI ++ [.int .i64 (((levR r).getD m default) + DM r i)]), K.row (.slice QH (hgtF r (chgS r) i).length qh) 3 1 (hgtF r (chgS r) i).length ((hgtF r (chgS r) i).flatMap K.eI), K.row (.slice Q1 (levR r).length q1) 3 1 (levR r).length ((levR r).flatMap K.eI)]) ?_ ?_
      · refine K.use_row K.m0 (fun hqH => ?_)
        refine K.draw_L [] Tryd_mixed ?_
        refine K.d_pure 1 rfl (K.move) (by kernel_rfl) rfl ?_
        refine zn ?_
        refine K.d_pure 3 rfl (K.move) (by kernel_rfl) rfl ?_
        refine zn ?_
        refine K.d_pure 4 rfl (K.move) (by kernel_rfl) rfl ?_
        refine zn ?_
        refine K.d_ix (M := [K.row (.slice Q1 (levR r).length q1) 3 1 (levR r).length ((levR r).flatMap K.eI)]) 5 _ rfl (K.Sl.own (w0 := w) (t := 3) (c := q1) (e := K.eI) hq1 (fun _ => rfl)) sl_26 rfl rfl rfl (by omega) (by kernel_rfl) rfl ?_
        intro p67 hp67
        refine zN ?_
        refine K.d_mem 6 rfl (K.load1 one_3 rfl (hp67.at1 (K.m1))) (fun _ h => h) (by kernel_rfl) (by kernel_rfl) rfl ?_
        refine zN ?_
        refine K.d_pure 7 rfl (K.move) (by kernel_rfl) rfl ?_
        refine zn ?_
        refine K.d_pure 8 rfl (K.add_i64 rfl rfl (by omega)) (by kernel_rfl) rfl ?_
        refine zn ?_
        refine K.d_two 0 9 (by kernel_rfl) ?_ ?_
        · refine K.s_new 0 rfl (K.buildSlice (bs0)) (fun _ h => h) (by kernel_rfl) rfl ?_
          intro b62
          refine zN ?_
          refine K.d_row0 (size := 1) ?_
          refine zN ?_
          refine K.d_two 2 9 (by kernel_rfl) ?_ ?_
          · refine K.s_upd 2 rfl (K.appendS el_26 rfl rfl ((K.Sl.own (w0 := w) (t := 3) (c := qh) (e := K.eI) hqH (fun _ => rfl)).at1 (K.m1)) (fun _ => rfl) (K.oneI _) (by omega) (by omega) (fun _ _ => K.rp0)) (fun _ => fun _ h => K.tl h) (by kernel_rfl) rfl ?_
            rintro ⟨A64, c64⟩ _
            refine zN ?_
            simp only [Nat.zero_add, List.nil_append]
            refine zN ?_
            refine K.d_new 9 rfl (K.buildSlice (bs1 _)) (fun _ h => K.tl h) (by kernel_rfl) rfl ?_
            intro b71
            refine zN ?_
            refine K.d_upd 10 rfl (K.append el_26 rfl rfl (K.PtrL.own' (K.m0)) rfl rfl (by decide) (by omega) (by omega) (fun _ _ => K.rp1)) (fun _ => fun _ h => K.tl (K.tl h)) (by kernel_rfl) rfl ?_
            rintro ⟨g72, c72⟩ _
            refine zN ?_
            refine K.d_pure 11 rfl (K.assign) (by kernel_rfl) rfl ?_
            refine zn ?_
            refine K.d_done (by kernel_rfl) ?_
            exact K.join_here (L' := [K.row (.slice (some ⟨g72, 0, none⟩) ((hgtF r (chgS r) i).length + 1) c72) 3 1 ((hgtF r (chgS r) i).length + 1) ((hgtF r (chgS r) i).flatMap K.eI ++ [.int .i64 (((levR r).getD m default) + DM r i)]), K.row (.slice QH (hgtF r (chgS r) i).length qh) 3 1 (hgtF r (chgS r) i).length ((hgtF r (chgS r) i).flatMap K.eI), K.row (.slice Q1 (levR r).length q1) 3 1 (levR r).length ((levR r).flatMap K.eI)]) [.slice (some ⟨g72, 0, none⟩) ((hgtF r (chgS r) i).length + 1) c72] ⟨g72, c72, rfl, rfl⟩ (K.st_sub (List.Sublist.cons _ (List.Sublist.refl _))) (by kernel_rfl)
          refine K.s_new 9 rfl (K.buildSlice (bs1 _)) (fun _ h => K.tl h) (by kernel_rfl) rfl ?_
          intro b71
          refine zN ?_
          refine K.d_upd 2 rfl (K.appendS el_26 rfl rfl ((K.Sl.own (w0 := w) (t := 3) (c := qh) (e := K.eI) hqH (fun _ => rfl)).at1 (K.m2)) (fun _ => rfl) (K.oneI _) (by omega) (by omega) (fun _ _ => K.rp1)) (fun _ => fun _ h => K.tl (K.tl h)) (by kernel_rfl) rfl ?_
          rintro ⟨A64, c64⟩ _
          refine zN ?_
          simp only [Nat.zero_add, List.nil_append]
          refine zN ?_
          refine K.d_upd 10 rfl (K.append el_26 rfl rfl (K.PtrL.own' (K.m0)) rfl rfl (by decide) (by omega) (by omega) (fun _ _ => K.rp1)) (fun _ => fun _ h => K.tl (K.tl h)) (by kernel_rfl) rfl ?_
          rintro ⟨g72, c72⟩ _
          refine zN ?_
          refine K.d_pure 11 rfl (K.assign) (by kernel_rfl) rfl ?_
          refine zn ?_
          refine K.d_done (by kernel_rfl) ?_
          exact K.join_here (L' := [K.row (.slice (some ⟨g72, 0, none⟩) ((hgtF r (chgS r) i).length + 1) c72) 3 1 ((hgtF r (chgS r) i).length + 1) ((hgtF r (chgS r) i).flatMap K.eI ++ [.int .i64 (((levR r).getD m default) + DM r i)]), K.row (.slice QH (hgtF r (chgS r) i).length qh) 3 1 (hgtF r (chgS r) i).length ((hgtF r (chgS r) i).flatMap K.eI), K.row (.slice Q1 (levR r).length q1) 3 1 (levR r).length ((levR r).flatMap K.eI)]) [.slice (some ⟨g72, 0, none⟩) ((hgtF r (chgS r) i).length + 1) c72] ⟨g72, c72, rfl, rfl⟩ (K.st_sub (List.Sublist.cons _ (List.Sublist.refl _))) (by kernel_rfl)
        refine K.s_new 9 rfl (K.buildSlice (bs1 _)) (fun _ h => h) (by kernel_rfl) rfl ?_
        intro b71
        refine zN ?_
        refine K.d_new 0 rfl (K.buildSlice (bs0)) (fun _ h => K.tl h) (by kernel_rfl) rfl ?_
        intro b62
        refine zN ?_
        refine K.d_row0 (size := 1) ?_
        refine zN ?_
        refine K.d_upd 2 rfl (K.appendS el_26 rfl rfl ((K.Sl.own (w0 := w) (t := 3) (c := qh) (e := K.eI) hqH (fun _ => rfl)).at1 (K.m2)) (fun _ => rfl) (K.oneI _) (by omega) (by omega) (fun _ _ => K.rp0)) (fun _ => fun _ h => K.tl (K.tl h)) (by kernel_rfl) rfl ?_
        rintro ⟨A64, c64⟩ _
        refine zN ?_
        simp only [Nat.zero_add, List.nil_append]
        refine zN ?_
        refine K.d_upd 10 rfl (K.append el_26 rfl rfl (K.PtrL.own' (K.m1)) rfl rfl (by decide) (by omega) (by omega) (fun _ _ => K.rp0)) (fun _ => fun _ h => K.tl (K.tl h)) (by kernel_rfl) rfl ?_
        rintro ⟨g72, c72⟩ _
        refine zN ?_
        refine K.d_pure 11 rfl (K.assign) (by kernel_rfl) rfl ?_
        refine zn ?_
        refine K.d_done (by kernel_rfl) ?_
        exact K.join_here (L' := [K.row (.slice (some ⟨g72, 0, none⟩) ((hgtF r (chgS r) i).length + 1) c72) 3 1 ((hgtF r (chgS r) i).length + 1) ((hgtF r (chgS r) i).flatMap K.eI ++ [.int .i64 (((levR r).getD m default) + DM r i)]), K.row (.slice QH (hgtF r (chgS r) i).length qh) 3 1 (hgtF r (chgS r) i).length ((hgtF r (chgS r) i).flatMap K.eI), K.row (.slice Q1 (levR r).length q1) 3 1 (levR r).length ((levR r).flatMap K.eI)]) [.slice (some ⟨g72, 0, none⟩) ((hgtF r (chgS r) i).length + 1) c72] ⟨g72, c72, rfl, rfl⟩ (K.st_sub (List.Sublist.cons_cons _ (List.Sublist.cons _ (List.Sublist.refl _)))) (by kernel_rfl)
      intro vi vr L hJ
      obtain ⟨G, cG, rfl, rfl⟩ := hJ
      rw [show (hgtF r (chgS r) i).length + 1 = ((hgtF r (chgS r) i) ++ [(((levR r).getD m default) + DM r i)]).length by rw [List.length_append]; rfl, show (hgtF r (chgS r) i).flatMap K.eI ++ [Value.int .i64 (((levR r).getD m default) + DM r i)] = ((hgtF r (chgS r) i) ++ [(((levR r).getD m default) + DM r i)]).flatMap K.eI by rw [List.flatMap_append]; rfl]
      try dsimp only [setd, setn, ev, nth, over, cl, eI, eP, eT, eR, setM, setF, List.map, List.append, List.drop, List.take]
      refine K.norm_then ?_
      refine sr ?_
      iterate 4 refine qm ?_
      refine K.seq_call (K.call_g cal_79 (fun F w hF hw => (by have hA := (K.Rd.own (e := K.eI) (xs := (levR r)) hw (hF _ (K.m2)) hq1 (fun _ => rfl) (by decide)); have hF := K.Rd.own (e := K.eI) (xs := ((hgtF r (chgS r) i) ++ [(((levR r).getD m default) + DM r i)])) hw (hF _ (K.m0)) (.inr ⟨G, rfl⟩) (fun _ => rfl) (by decide); exact c79 (c := c) (ca := q1) (cf := cG) (hR.pass hw) g hA hF (fun m hm => levR_bd g (K.gt_mem hm)) hll (by rw [List.length_append, hgt_len]; show i + 1 ≤ 9; omega)))) rfl ?_
      refine zN ?_
      refine qm ?_
      refine qp (K.eql rfl rfl) ?_
      refine sn ?_
      refine K.cond rfl (fun ht79 => ?_) (fun ht79 => ?_)
      · try replace ht79 := of_decide_eq_true ht79
        refine sr ?_
        refine qm ?_
        refine qa ?_
        refine sn ?_
        refine K.exit ?_
        refine K.exit_out rfl ?_
        refine K.exit_then ?_
        refine K.exit_then ?_
        refine K.exit_here ?_
        refine K.norm_block ?_
        refine K.norm_then ?_
        refine K.region_lit ?_
        refine qm ?_
        refine qp (K.add_i64 rfl rfl (by omega)) ?_
        refine qa ?_
        refine K.seq_nil ?_
        have hnx : (hgtF r (chgS r) (i + 1)) = ((hgtF r (chgS r) i) ++ [(((levR r).getD m default) + DM r i)]) := hgr.2 m hm hno ht79
        exact K.round_endW (L'' := [K.row (.slice (some ⟨G, 0, none⟩) ((hgtF r (chgS r) i) ++ [(((levR r).getD m default) + DM r i)]).length cG) 3 1 ((hgtF r (chgS r) i) ++ [(((levR r).getD m default) + DM r i)]).length (((hgtF r (chgS r) i) ++ [(((levR r).getD m default) + DM r i)]).flatMap K.eI), K.row (.slice Q1 (levR r).length q1) 3 1 (levR r).length ((levR r).flatMap K.eI)]) [.slice (some ⟨G, 0, none⟩) ((hgtF r (chgS r) i) ++ [(((levR r).getD m default) + DM r i)]).length cG, .int .i64 ((i : Int) + 1)] ⟨i + 1, some ⟨G, 0, none⟩, cG, by rw [hnx] <;> rfl, by rw [hnx] <;> rfl, by omega⟩ (by simp [K.nth, intOf]; omega) (List.Sublist.cons_cons _ (List.Sublist.cons _ (List.Sublist.refl _))) (by kernel_rfl)
      try replace ht79 := of_decide_eq_false ht79
      refine K.skip ?_
      refine K.norm_block ?_
      refine K.norm_then ?_
      refine K.region_lit ?_
      refine qm ?_
      refine qp (K.add_i64 rfl rfl (by omega)) ?_
      refine qa ?_
      refine K.seq_nil ?_
      exact K.round_endW (L'' := [K.row (.slice QH (hgtF r (chgS r) i).length qh) 3 1 (hgtF r (chgS r) i).length ((hgtF r (chgS r) i).flatMap K.eI), K.row (.slice Q1 (levR r).length q1) 3 1 (levR r).length ((levR r).flatMap K.eI)]) [.slice QH (hgtF r (chgS r) i).length qh, .int .i64 ((m : Int) + 1)] ⟨m + 1, rfl, rfl, by omega, K.lt_succ_case hno ht79⟩ (by simp [K.nth, intOf]; omega) (List.Sublist.cons _ (List.Sublist.refl _)) (by kernel_rfl)
    try replace ht59 := of_decide_eq_false ht59
    refine K.exit ?_
    refine K.exit_then ?_
    refine K.exit_then ?_
    refine K.exit_here ?_
    refine K.norm_block ?_
    refine K.norm_then ?_
    refine K.region_lit ?_
    refine qm ?_
    refine qp (K.add_i64 rfl rfl (by omega)) ?_
    refine qa ?_
    refine K.seq_nil ?_
    obtain ⟨m2, hm2, hm3⟩ := hgr.1
    exact absurd hm3 (hno m2 (by omega))
  try replace ht49 := of_decide_eq_false ht49
  refine K.exit ?_
  refine K.exit_then ?_
  refine K.exit_then ?_
  refine K.exit_here ?_
  refine K.norm_then ?_
  refine sr ?_
  iterate 2 refine qm ?_
  iterate 3 refine qa ?_
  refine sn ?_
  refine K.ret ?_
  refine K.end_ret (fun w _ => K.res_ttt rfl w) ?_
  have e0 : i = r.length := by omega
  subst e0
  have e1 : lstC r = chgS r := by unfold lstC; rw [if_neg (by omega)]
  have e2 : lstL r = (hgtF r (chgS r) r.length) := by unfold lstL; rw [if_neg (by omega)]
  rw [e1, e2, hc]
  exact reti (w0 := w) K.m0 rfl rfl rfl rfl rfl

theorem c33 {r : List RvT} {A : Option Addr} {c : Nat} {w : World} (hR : K.Rd w A 4 eR r) (hn : r.length ≤ 4611686018427387904) : Calls Tryd.prog 33 [.slice A r.length c].toArray w (RetI (lstC r) (lstL r) (chk r).2.2 w) := by
  by_cases hc : (chk r).2.2 = 0
  · exact g33 hR hn hc
  · exact e33 hR hn hc


set_option maxRecDepth 100000 in
set_option maxHeartbeats 4000000 in
theorem c4 {r : List RvT} {A : Option Addr} {c : Nat} {w : World} (hR : K.Rd w A 4 eR r) (hn : r.length ≤ 17592186043904) (hT : Tab w) :
    Calls Tryd.prog 4 [.slice A r.length c].toArray w (K.Gives (.bool true) w) := by
  have hn4 : r.length ≤ 4611686018427387904 := by omega
  have l1 := few_9 (r := r)
  have l2 := must_9 (r := r)
  have l3 := prf_9 (r := r)
  have l4 : (lstL r).length ≤ 9 := by
    unfold lstL
    split
    · exact Nat.zero_le _
    · rename_i h
      rw [hgt_len]
      exact (chk_good (Decidable.not_not.1 h)).n.2
  refine K.enter (args := [.slice A r.length c]) Tryd.func4 rfl (n := 103) rfl ?_
  simp only [List.replicate, List.cons_append, List.nil_append]
  refine sr ?_
  refine qa ?_
  refine sn ?_
  refine sr ?_
  refine qm ?_
  refine K.seq_loud (K.call_f cal_26 (fun F w hF hw => c26 (hR.pass hw) hn4 (hT.pass hw))) rfl ?_
  rintro ⟨Q1, q1⟩ hq1
  refine zN ?_
  refine qm ?_
  refine qx ?_
  refine qx ?_
  iterate 2 refine qa ?_
  refine sn ?_
  refine sr ?_
  refine qm ?_
  refine K.seq_loud (K.call_f cal_27 (fun F w hF hw => c27 (hR.pass hw) hn4)) rfl ?_
  rintro ⟨Q2, q2, F2⟩ hq2
  refine zN ?_
  refine qm ?_
  refine qx ?_
  refine qx ?_
  iterate 2 refine qa ?_
  refine sn ?_
  refine K.seq ?_
  refine sr ?_
  iterate 2 refine qm ?_
  refine K.seq_call (K.call_g cal_18 (fun F w hF hw => (by have hX := (K.Rd.own (e := K.eI) (xs := (fewL r)) hw (hF _ (K.m1)) hq1 (fun _ => rfl) (by decide)); have hY : K.Rd w Q2 1 K.eI (fewL r) := K.Rd.inn (i := 0) hw (hF _ (K.m0)) (Nat.zero_lt_one) rfl; exact c18t (xs := (fewL r)) hX hY (by omega)))) rfl ?_
  refine zN ?_
  first | refine K.seq_pure (K.Pure.eq (K.not_d rfl) (show _ = Value.bool false from rfl)) rfl ?_ | refine K.seq_pure (K.Pure.eq (K.not_ rfl) (show _ = Value.bool false from rfl)) rfl ?_
  refine zN ?_
  iterate 3 refine qm ?_
  refine qp (K.Pure.eq (K.neq rfl rfl) (show _ = Value.bool false from congrArg Value.bool (decide_eq_false (fun h => h rfl)))) ?_
  refine qp (K.pick_f rfl) ?_
  refine sn ?_
  refine K.cond_false rfl ?_
  refine K.skip ?_
  refine K.norm_then ?_
  refine sr ?_
  refine qm ?_
  refine K.seq_loud (K.call_f cal_28 (fun F w hF hw => c28 (hR.pass hw) hn4 (hT.pass hw))) rfl ?_
  rintro ⟨⟨Q3, q3⟩, ⟨Q4, q4⟩⟩ ⟨hq3, hq4⟩
  refine zN ?_
  refine qm ?_
  refine qx ?_
  refine qx ?_
  refine qx ?_
  iterate 3 refine qa ?_
  refine sn ?_
  refine sr ?_
  refine qm ?_
  refine K.seq_loud (K.call_f cal_29 (fun F w hF hw => c29 (hR.pass hw) hn4)) rfl ?_
  rintro ⟨⟨Q5, q5⟩, ⟨Q6, q6⟩⟩ ⟨hq5, hq6⟩
  refine zN ?_
  refine qm ?_
  refine qx ?_
  refine qx ?_
  refine qx ?_
  iterate 3 refine qa ?_
  refine sn ?_
  refine K.seq ?_
  refine sr ?_
  iterate 2 refine qm ?_
  refine K.seq_call (K.call_g cal_18 (fun F w hF hw => (by have hX := (K.Rd.own (e := K.eI) (xs := (mustL r)) hw (hF _ (K.m3)) hq3 (fun _ => rfl) (by decide)); have hY := (K.Rd.own (e := K.eI) (xs := (mustL r)) hw (hF _ (K.m1)) hq5 (fun _ => rfl) (by decide)); exact c18t (xs := (mustL r)) hX hY (by omega)))) rfl ?_
  refine zN ?_
  first | refine K.seq_pure (K.Pure.eq (K.not_d rfl) (show _ = Value.bool false from rfl)) rfl ?_ | refine K.seq_pure (K.Pure.eq (K.not_ rfl) (show _ = Value.bool false from rfl)) rfl ?_
  refine zN ?_
  iterate 3 refine qm ?_
  refine K.seq_call (K.call_g cal_18 (fun F w hF hw => (by have hX := (K.Rd.own (e := K.eI) (xs := (mayL r)) hw (hF _ (K.m2)) hq4 (fun _ => rfl) (by decide)); have hY := (K.Rd.own (e := K.eI) (xs := (mayL r)) hw (hF _ (K.m0)) hq6 (fun _ => rfl) (by decide)); exact c18t (xs := (mayL r)) hX hY (by omega)))) rfl ?_
  refine zN ?_
  first | refine K.seq_pure (K.Pure.eq (K.not_d rfl) (show _ = Value.bool false from rfl)) rfl ?_ | refine K.seq_pure (K.Pure.eq (K.not_ rfl) (show _ = Value.bool false from rfl)) rfl ?_
  refine zN ?_
  refine qp (K.pick_f rfl) ?_
  iterate 3 refine qm ?_
  refine qp (K.Pure.eq (K.neq rfl rfl) (show _ = Value.bool false from congrArg Value.bool (decide_eq_false (fun h => h rfl)))) ?_
  refine qp (K.pick_f rfl) ?_
  refine sn ?_
  refine K.cond_false rfl ?_
  refine K.skip ?_
  refine K.norm_then ?_
  refine sr ?_
  refine qm ?_
  refine K.seq_loud (K.call_f cal_30 (fun F w hF hw => c30 (hR.pass hw) hn4 (hT.pass hw))) rfl ?_
  rintro ⟨Q7, q7⟩ hq7
  refine zN ?_
  refine qm ?_
  refine qx ?_
  refine qx ?_
  iterate 2 refine qa ?_
  refine sn ?_
  refine sr ?_
  refine qm ?_
  refine K.seq_loud (K.call_f cal_31 (fun F w hF hw => c31 (hR.pass hw) hn4)) rfl ?_
  rintro ⟨Q8, q8⟩ hq8
  refine zN ?_
  refine qm ?_
  refine qx ?_
  refine qx ?_
  iterate 2 refine qa ?_
  refine sn ?_
  refine K.seq ?_
  refine sr ?_
  iterate 2 refine qm ?_
  refine K.seq_call (K.call_g cal_18 (fun F w hF hw => (by have hX := (K.Rd.own (e := K.eI) (xs := (prfL r)) hw (hF _ (K.m1)) hq7 (fun _ => rfl) (by decide)); have hY := (K.Rd.own (e := K.eI) (xs := (prfL r)) hw (hF _ (K.m0)) hq8 (fun _ => rfl) (by decide)); exact c18t (xs := (prfL r)) hX hY (by omega)))) rfl ?_
  refine zN ?_
  first | refine K.seq_pure (K.Pure.eq (K.not_d rfl) (show _ = Value.bool false from rfl)) rfl ?_ | refine K.seq_pure (K.Pure.eq (K.not_ rfl) (show _ = Value.bool false from rfl)) rfl ?_
  refine zN ?_
  iterate 3 refine qm ?_
  refine qp (K.Pure.eq (K.neq rfl rfl) (show _ = Value.bool false from congrArg Value.bool (decide_eq_false (fun h => h rfl)))) ?_
  refine qp (K.pick_f rfl) ?_
  refine sn ?_
  refine K.cond_false rfl ?_
  refine K.skip ?_
  refine K.norm_then ?_
  refine sr ?_
  refine qm ?_
  refine K.seq_loud (K.call_f cal_32 (fun F w hF hw => c32 (hR.pass hw) hn4)) rfl ?_
  rintro ⟨Q9, q9⟩ hq9
  refine zN ?_
  refine qm ?_
  refine qx ?_
  refine qx ?_
  refine qx ?_
  iterate 3 refine qa ?_
  refine sn ?_
  refine sr ?_
  refine qm ?_
  refine K.seq_loud (K.call_f cal_33 (fun F w hF hw => c33 (hR.pass hw) hn4)) rfl ?_
  rintro ⟨Q10, q10⟩ hq10
  refine zN ?_
  refine qm ?_
  refine qx ?_
  refine qx ?_
  refine qx ?_
  iterate 3 refine qa ?_
  refine sn ?_
  refine sr ?_
  iterate 2 refine qm ?_
  refine qp (K.Pure.eq (K.eql rfl rfl) (show _ = Value.bool true from congrArg Value.bool (decide_eq_true rfl))) ?_
  iterate 3 refine qm ?_
  refine K.seq_call (K.call_g cal_18 (fun F w hF hw => (by have hX := (K.Rd.own (e := K.eI) (xs := (lstL r)) hw (hF _ (K.m1)) hq9 (fun _ => rfl) (by decide)); have hY := (K.Rd.own (e := K.eI) (xs := (lstL r)) hw (hF _ (K.m0)) hq10 (fun _ => rfl) (by decide)); exact c18t (xs := (lstL r)) hX hY (by omega)))) rfl ?_
  refine zN ?_
  refine qp (K.pick_t rfl) ?_
  iterate 3 refine qm ?_
  refine qp (K.Pure.eq (K.eql rfl rfl) (show _ = Value.bool true from congrArg Value.bool (decide_eq_true rfl))) ?_
  refine qp (K.pick_t rfl) ?_
  refine qm ?_
  refine K.seq_call (K.call_g cal_25 (fun F w hF hw => c25 (hT.pass hw))) rfl ?_
  refine zN ?_
  refine qp (K.pick_t rfl) ?_
  refine qa ?_
  refine sn ?_
  refine K.ret ?_
  refine K.end_ret (fun w _ => K.res_tmp rfl w) ?_
  exact K.gives rfl

end Go.Proofs.YtoemnobfnnjopaaDoor
end
