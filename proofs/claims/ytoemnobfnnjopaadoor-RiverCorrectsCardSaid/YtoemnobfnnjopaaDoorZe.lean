/-
  Lemmas and walks of functions, joined and with only what the claim needs.
  Conditions stand in each theorem.
-/
import Derived.Test.YtoemnobfnnjopaaDoorProg
import Derived.Test.YtoemnobfnnjopaaDoorRows
import Derived.Below
import Derived.Laws.AppendOwn
import Derived.Laws.Rows
import Derived.Laws.Slices
import Derived.Tactics
import Derived.OrdersHeld
import Derived.KernelRfl
import Derived.WalkKit
import Derived.Deep.AppendLies
import Derived.IntWalk
import Derived.Scope
import Derived.WalkSpells
import Derived.DeepKeys
import Derived.Deep.Upon
import Derived.RangeFuncLeaves
import Derived.RangeFuncSeq
import Derived.OrdersIn
import Derived.Sort.LoopGhostIn
import Derived.TacticsIn
import Derived.RangeFuncOwn
import Derived.WideKeyMaps
import Derived.DeepKeys4
import Derived.Carry
import Derived.Laws.CopyRow
import Derived.Laws.Strings
import Derived.WalkArith
import Derived.Laws.Closers25b
import Derived.ProofKit
import Derived.OpenShut
import Derived.LaidMore
import Derived.Lay
import Derived.Stop.Joined
import Derived.ChangeOld
import Derived.SizedLaws
import Derived.Deep.Slices
import Derived.Deep.Fields
import Derived.ChangeSame
import Derived.Lib.SmallJoins
import Derived.Laws.MakeOwn
import Derived.Shelf.Sort.Plain
import Derived.Sort.OwnSortedInts
import Derived.SevenTiedAt
import Derived.Test.YtoemnobfnnjopaaDoorZd
section
set_option linter.unusedSimpArgs false
set_option linter.unusedVariables false
namespace Go.Proofs.YtoemnobfnnjopaaDoor
open Go.RowKit Go
open Go.K (setd setn ev nth over cl eI eP eT setM setF)
attribute [local irreducible] K.blk K.row
theorem sizeT : Tryd.prog.types.size = 153 := by kernel_rfl
theorem row101 : 101 < Tryd.prog.types.size := by rw [sizeT]; decide
theorem key101 : Tryd.prog.keyTypeAt 10 101 = true := by kernel_rfl
theorem wide101 : (match Tryd.prog.underlying 101 with | some (.array _ _) | some (.struct _) => true | _ => false) = true := by kernel_rfl
theorem ulC : Tryd.prog.underlying 95 = some (.map 101 3) := by kernel_rfl
theorem k2_101 : K.key2 Tryd.prog 101 = true := by kernel_rfl
set_option maxRecDepth 100000 in
theorem mapC : K.MapT Tryd.prog 95 101 := ⟨⟨3, ulC, fun w => by kernel_rfl⟩, deep_law_laid laidOut (m := 10) (by omega) row101 key101 wide101⟩
theorem form101 (x y : Int) : (Value.agg #[.int .i64 x, .int .i64 y]).formed Tryd.prog 101 = true := by kernel_rfl
theorem keyC {x y : Int} (hx : -100000 ≤ x ∧ x ≤ 100000) (hy : -100000 ≤ y ∧ y ≤ 100000) : ∃ q, keyOf Tryd.prog 101 (.agg #[.int .i64 x, .int .i64 y]) = some q :=
  K.keyOf_2 k2_101 (by rw [sizeT]; decide) (form101 x y) (WalkArith.wf_i64 (by omega)) (WalkArith.wf_i64 (by omega))
theorem keyCs {r : List RvT} {lv fx : List Int} {kvs : List (Value × Int)} (g : Good r) (h : KnOk r lv fx kvs) : ∀ p ∈ kvs, ∃ q, keyOf Tryd.prog 101 p.1 = some q := fun p hp => by
  obtain ⟨a, l, e, ha, hl, _⟩ := h p hp
  have := g.n
  rw [e]
  exact keyC (by omega) (by omega)
theorem bl101 (x y : Int) : K.Bl Tryd.prog 101 [(0, .int .i64 x), (1, .int .i64 y)] (.agg #[.int .i64 x, .int .i64 y]) := fun w => by kernel_rfl
/-- What the function for costs does, with so many rows of points left. -/
def Go77 (r : List RvT) (A : Option Addr) (c q : Nat) (lv fx : List Int) (QL QF : Option Addr) (cL cF bm bc f : Nat) (w0 : World) : Prop :=
  ∀ {a : Nat} {low : Int} {kvs : List (Value × Int)} {T : List K.Chunk} {w : World}, K.St w0 (K.mq bm none kvs :: K.blk bc 97 [.pointer (some ⟨q, 0, none⟩), .slice QL lv.length cL, .map (some bm), .slice QF fx.length cF, .int .i64 ((mthS r : Nat) : Int)] :: K.row (.slice QL lv.length cL) 3 1 lv.length (lv.flatMap K.eI) :: K.row (.slice QF fx.length cF) 3 1 fx.length (fx.flatMap K.eI) :: K.blk q 79 (.slice A r.length c :: dcell (drT r)) :: T) w → KnOk r lv fx kvs → a < r.length → -9000 ≤ low ∧ low ≤ 9000 → f = r.length + 1 - dep r a → Calls Tryd.prog 77 [.pointer (some ⟨bc, 0, none⟩), .agg #[.int .i64 (a : Int), .int .i64 low]].toArray w (K.RetU (fun z : Int × List (Value × Int) => z.1 = costF r lv fx f a low ∧ KnOk r lv fx z.2) (fun z => .int .i64 z.1) w0 (fun z => K.mq bm none z.2 :: K.blk bc 97 [.pointer (some ⟨q, 0, none⟩), .slice QL lv.length cL, .map (some bm), .slice QF fx.length cF, .int .i64 ((mthS r : Nat) : Int)] :: K.row (.slice QL lv.length cL) 3 1 lv.length (lv.flatMap K.eI) :: K.row (.slice QF fx.length cF) 3 1 fx.length (fx.flatMap K.eI) :: K.blk q 79 (.slice A r.length c :: dcell (drT r)) :: T))

set_option maxRecDepth 100000 in
set_option maxHeartbeats 4000000 in
theorem c77_s {r : List RvT} {A : Option Addr} {c q : Nat} {w0 : World} (hR : K.Rd w0 A 4 eR r) (g : Good r) {lv fx : List Int} {QL QF : Option Addr} {cL cF bm bc : Nat} (hlv : ∀ x ∈ lv, -4500 ≤ x ∧ x ≤ 9000) (hll : lv.length ≤ 27) (hfl : fx.length ≤ 9) (hqL : lv.length = 0 ∨ ∃ b, QL = some ⟨b, 0, none⟩) (hqF : fx.length = 0 ∨ ∃ b, QF = some ⟨b, 0, none⟩) {f : Nat} (IH : Go77 r A c q lv fx QL QF cL cF bm bc f w0) {a : Nat} {low : Int} {kvs : List (Value × Int)} {T : List K.Chunk} {w : World} (hst : K.St w0 (K.mq bm none kvs :: K.blk bc 97 [.pointer (some ⟨q, 0, none⟩), .slice QL lv.length cL, .map (some bm), .slice QF fx.length cF, .int .i64 ((mthS r : Nat) : Int)] :: K.row (.slice QL lv.length cL) 3 1 lv.length (lv.flatMap K.eI) :: K.row (.slice QF fx.length cF) 3 1 fx.length (fx.flatMap K.eI) :: K.blk q 79 (.slice A r.length c :: dcell (drT r)) :: T) w) (hkn : KnOk r lv fx kvs) (ha : a < r.length) (hlo : -9000 ≤ low ∧ low ≤ 9000) (hf : f + 1 = r.length + 1 - dep r a) :
    Calls Tryd.prog 77 [.pointer (some ⟨bc, 0, none⟩), .agg #[.int .i64 (a : Int), .int .i64 low]].toArray w (K.RetU (fun z : Int × List (Value × Int) => z.1 = costF r lv fx (f + 1) a low ∧ KnOk r lv fx z.2) (fun z => .int .i64 z.1) w0 (fun z => K.mq bm none z.2 :: K.blk bc 97 [.pointer (some ⟨q, 0, none⟩), .slice QL lv.length cL, .map (some bm), .slice QF fx.length cF, .int .i64 ((mthS r : Nat) : Int)] :: K.row (.slice QL lv.length cL) 3 1 lv.length (lv.flatMap K.eI) :: K.row (.slice QF fx.length cF) 3 1 fx.length (fx.flatMap K.eI) :: K.blk q 79 (.slice A r.length c :: dcell (drT r)) :: T)) := by
  have hgn := g.n
  have hda := (dep_is g ha).1
  have hdl := DM_le g ha
  have hpa := g.p a ha
  have hmt := mth_is g
  have hdr := riv_at (f := drT r) (S := .slice A r.length c) (i := a) (k := mthS r) (by omega) (by omega)
  rw [drT_in ha hmt.1, drp_mth g ha] at hdr
  refine K.enterU (args := [.pointer (some ⟨bc, 0, none⟩), .agg #[.int .i64 (a : Int), .int .i64 low]]) Tryd.func77 rfl (n := 132) rfl hst ?_
  simp only [List.replicate, List.cons_append, List.nil_append]
  refine sr ?_
  refine K.seq_new (K.box) rfl ?_
  intro b3
  refine zN ?_
  refine K.permH (L' := _ :: _ :: _ :: _ :: _ :: _ :: _) (List.Perm.trans (List.perm_middle (l₁ := [_])) (List.Perm.cons _ (List.Perm.trans (List.perm_middle (l₁ := [_])) (List.Perm.cons _ (List.Perm.trans (List.perm_middle (l₁ := [_])) (List.Perm.cons _ (List.Perm.trans (List.perm_middle (l₁ := [_])) (List.Perm.cons _ (List.Perm.trans (List.perm_middle (l₁ := [_])) (List.Perm.cons _ (List.Perm.refl _))))))))))) ?_
  refine qa ?_
  refine sn ?_
  refine K.seq ?_
  refine K.seq ?_
  refine K.draw_L [] Tryd_mixed ?_
  refine K.d_pure 0 rfl (K.move) (by kernel_rfl) rfl ?_
  refine zn ?_
  refine K.d_pure 1 rfl (K.nilCheck rfl) (by kernel_rfl) rfl ?_
  refine zn ?_
  refine K.d_pure 2 rfl (K.fieldAddr_lit fo_97_2 rfl) (by kernel_rfl) rfl ?_
  refine zn ?_
  refine K.d_mem 3 rfl (K.load1_own one_95 rfl (K.m1) rfl) (fun _ h => h) (by kernel_rfl) (by kernel_rfl) rfl ?_
  refine zN ?_
  refine K.d_mem 4 rfl (K.loadA_own ag_101 rfl (K.m5) rfl) (fun _ h => h) (by kernel_rfl) (by kernel_rfl) rfl ?_
  refine zN ?_
  refine K.d_loud 5 rfl (K.lookupOk_mq mapC rfl rfl (K.m0) (keyC (by omega) (by omega)) (keyCs g hkn)) (fun _ h => h) (by kernel_rfl) rfl ?_
  rintro ⟨n21, ok21⟩ hn21
  refine zN ?_
  refine K.d_pure 6 rfl (K.move) (by kernel_rfl) rfl ?_
  refine zn ?_
  refine K.d_pure 7 rfl (K.extract rfl rfl) (by kernel_rfl) rfl ?_
  refine zn ?_
  refine K.d_pure 8 rfl (K.extract rfl rfl) (by kernel_rfl) rfl ?_
  refine zn ?_
  refine K.d_pure 9 rfl (K.assign) (by kernel_rfl) rfl ?_
  refine zn ?_
  refine K.d_pure 10 rfl (K.assign) (by kernel_rfl) rfl ?_
  refine zn ?_
  refine K.d_done (by kernel_rfl) ?_
  refine K.norm_then ?_
  refine sr ?_
  refine qm ?_
  refine sn ?_
  refine K.cond rfl (fun ht24 => ?_) (fun ht24 => ?_)
  · try replace ht24 := of_decide_eq_true ht24
    have hnv : n21 = costF r lv fx (f + 1) a low := by
      rcases hn21 with ⟨h, _⟩ | ⟨_, h⟩
      · have h1 : ok21 = false := h
        rw [h1] at ht24; cases ht24
      · rw [hf]; exact kn_at hkn h
    refine sr ?_
    refine qm ?_
    refine qa ?_
    refine sn ?_
    refine K.ret ?_
    refine K.ret_then ?_
    refine K.end_ret (fun w _ => K.res_tmp rfl w) ?_
    exact K.retsU (n21, kvs) ⟨hnv, hkn⟩ rfl ((List.Sublist.cons_cons _ (List.Sublist.cons_cons _ (List.Sublist.cons_cons _ (List.Sublist.cons_cons _ (List.Sublist.cons_cons _ (List.Sublist.cons _ (List.Sublist.refl _))))))))
  try replace ht24 := of_decide_eq_false ht24
  refine K.skip ?_
  refine K.norm_then ?_
  refine sr ?_
  refine qa ?_
  refine sn ?_
  refine K.seq ?_
  refine sr ?_
  refine qm ?_
  refine qp (K.nilCheck rfl) ?_
  refine qp (K.fieldAddr_lit fo_97_1 rfl) ?_
  refine K.seq_sil (K.load1_own one_26 rfl (K.m1) rfl) rfl ?_
  refine zN ?_
  refine qp (K.len_sl sl_26 rfl) ?_
  refine qm ?_
  refine sn ?_
  refine K.block ?_
  refine K.loopW [7, 31] [9, 10, 11, 12, 13, 14, 32, 33, 34, 35, 36, 37, 38, 39, 40, 41, 42, 43, 44, 45, 46, 47, 48, 49, 50, 51, 52, 53, 54, 55, 56, 57, 58, 59, 60, 61, 62, 63, 64, 65, 66, 67, 68, 69, 70, 71, 72, 73, 74, 75, 76, 77, 78, 79, 80, 81, 82, 83, 84, 85, 86, 87, 88, 89, 90, 91, 92, 93, 94, 95, 96, 97, 98, 99, 100, 101, 102, 103, 104, 105, 106, 107, 108, 109, 110, 111, 112, 113, 114, 115, 116, 117, 118, 119, 120, 121, 122, 123, 124, 125, 126] (fun vi L => ∃ (j : Nat) (kvs1 : List (Value × Int)), vi = [.int .i64 (minF (costF r lv fx f) r lv fx a low j), .int .i64 (j : Int)] ∧ L = K.mq bm none kvs1 :: K.blk bc 97 [.pointer (some ⟨q, 0, none⟩), .slice QL lv.length cL, .map (some bm), .slice QF fx.length cF, .int .i64 ((mthS r : Nat) : Int)] :: K.row (.slice QL lv.length cL) 3 1 lv.length (lv.flatMap K.eI) :: K.row (.slice QF fx.length cF) 3 1 fx.length (fx.flatMap K.eI) :: K.blk q 79 (.slice A r.length c :: dcell (drT r)) :: K.blk b3 101 [.int .i64 (a : Int), .int .i64 low] :: T ∧ KnOk r lv fx kvs1 ∧ j ≤ lv.length) (fun vi => lv.length - (intOf (K.nth vi 1)).toNat) ?_ ?_
  · exact ⟨0, kvs, rfl, rfl, hkn, Nat.zero_le _⟩
  intro vi vr L hJ
  obtain ⟨j, kvs1, rfl, rfl, hkn1, hjn⟩ := hJ
  try dsimp only [setd, setn, ev, nth, over, cl, eI, eP, eT, eR, setM, setF, List.map, List.append, List.drop, List.take]
  refine sr ?_
  refine qp (K.lss rfl rfl) ?_
  refine sn ?_
  refine K.seq ?_
  refine K.cond rfl (fun ht32 => ?_) (fun ht32 => ?_)
  · try replace ht32 := of_decide_eq_true ht32
    have hj : j < lv.length := by omega
    have hlj := hlv _ (K.gt_mem hj)
    have hmb := minF_bd' (lv := lv) (fx := fx) (low := low) g ha (cost_bd (lv := lv) (fx := fx) g f) j
    refine K.skip ?_
    refine K.norm_then ?_
    refine K.seq ?_
    refine K.block ?_
    refine sr ?_
    refine K.seq_ix (M := [K.row (.slice QL lv.length cL) 3 1 lv.length (lv.flatMap K.eI)]) _ (K.Sl.own (w0 := w0) (t := 3) (c := cL) (e := K.eI) hqL (fun _ => rfl)) sl_26 rfl rfl rfl (by omega) rfl ?_
    intro p33 hp33
    refine zN ?_
    refine K.seq_sil (K.load1 one_3 rfl (hp33.at1 (K.m2))) rfl ?_
    refine zN ?_
    refine qa ?_
    refine sn ?_
    refine K.seq ?_
    refine K.draw_L [] Tryd_mixed ?_
    refine K.d_pure 0 rfl (K.move) (by kernel_rfl) rfl ?_
    refine zn ?_
    refine K.d_pure 1 rfl (K.move) (by kernel_rfl) rfl ?_
    refine zn ?_
    refine K.d_pure 2 rfl (K.nilCheck rfl) (by kernel_rfl) rfl ?_
    refine zn ?_
    refine K.d_pure 3 rfl (K.fieldAddr_lit fo_97_0 rfl) (by kernel_rfl) rfl ?_
    refine zn ?_
    refine K.d_mem 4 rfl (K.load1_own one_65 rfl (K.m1) rfl) (fun _ h => h) (by kernel_rfl) (by kernel_rfl) rfl ?_
    refine zN ?_
    refine K.d_pure 5 rfl (K.fieldAddr_lit fo_101_0 rfl) (by kernel_rfl) rfl ?_
    refine zn ?_
    refine K.d_mem 6 rfl (K.load1_own one_3 rfl (K.m5) rfl) (fun _ h => h) (by kernel_rfl) (by kernel_rfl) rfl ?_
    refine zN ?_
    refine K.d_pure 7 rfl (K.move) (by kernel_rfl) rfl ?_
    refine zn ?_
    refine K.d_pure 8 rfl (K.nilCheck rfl) (by kernel_rfl) rfl ?_
    refine zn ?_
    refine K.d_pure 9 rfl (K.fieldAddr_lit fo_97_4 rfl) (by kernel_rfl) rfl ?_
    refine zn ?_
    refine K.d_mem 10 rfl (K.load1_own one_3 rfl (K.m1) rfl) (fun _ h => h) (by kernel_rfl) (by kernel_rfl) rfl ?_
    refine zN ?_
    refine K.d_pure 11 rfl (K.nilCheck rfl) (by kernel_rfl) rfl ?_
    refine zn ?_
    refine K.d_pure 12 rfl (K.fieldAddr_lit fo_79_1 rfl) (by kernel_rfl) rfl ?_
    refine zn ?_
    refine K.d_pure 13 rfl (K.indexAddr_ar ar_77 rfl rfl (by omega) (by omega)) (by kernel_rfl) rfl ?_
    refine zN ?_
    refine K.d_pure 14 rfl (K.indexAddr_ar ar_76 rfl rfl (by omega) (by omega)) (by kernel_rfl) rfl ?_
    refine zN ?_
    refine K.d_mem 15 rfl (K.load_at one_3 rfl (K.PtrL.own' ((K.m4))) hdr) (fun _ h => h) (by kernel_rfl) (by kernel_rfl) rfl ?_
    refine zN ?_
    refine K.d_pure 16 rfl (K.add_i64 rfl rfl (by omega)) (by kernel_rfl) rfl ?_
    refine zn ?_
    refine K.d_pure 17 rfl (K.assign) (by kernel_rfl) rfl ?_
    refine zn ?_
    refine K.d_done (by kernel_rfl) ?_
    refine K.norm_then ?_
    refine K.seq ?_
    refine K.seq ?_
    refine K.draw_L [] Tryd_mixed ?_
    refine K.d_pure 0 rfl (K.move) (by kernel_rfl) rfl ?_
    refine zn ?_
    refine K.d_pure 1 rfl (K.fieldAddr_lit fo_101_1 rfl) (by kernel_rfl) rfl ?_
    refine zn ?_
    refine K.d_mem 2 rfl (K.load1_own one_3 rfl (K.m5) rfl) (fun _ h => h) (by kernel_rfl) (by kernel_rfl) rfl ?_
    refine zN ?_
    refine K.d_pure 3 rfl (K.lss rfl rfl) (by kernel_rfl) rfl ?_
    refine zn ?_
    refine K.d_pure 4 rfl (K.move) (by kernel_rfl) rfl ?_
    refine zn ?_
    refine K.dsplit 56 rfl (fun hg56 => ?_) (fun hg56 => ?_)
    · try replace hg56 := of_decide_eq_true hg56
      refine K.d_skip 5 rfl (by kernel_rfl) rfl ?_
      refine zN ?_
      refine K.d_skip 6 rfl (by kernel_rfl) rfl ?_
      refine zN ?_
      refine K.d_skip 7 rfl (by kernel_rfl) rfl ?_
      refine zN ?_
      refine K.d_pure 8 rfl (K.pick_t rfl) (by kernel_rfl) rfl ?_
      refine zn ?_
      refine K.d_pure 9 rfl (K.move) (by kernel_rfl) rfl ?_
      refine zn ?_
      refine K.d_skip 10 rfl (by kernel_rfl) rfl ?_
      refine zN ?_
      refine K.d_skip 11 rfl (by kernel_rfl) rfl ?_
      refine zN ?_
      refine K.d_skip 12 rfl (by kernel_rfl) rfl ?_
      refine zN ?_
      refine K.d_skip 13 rfl (by kernel_rfl) rfl ?_
      refine zN ?_
      refine K.d_skip 14 rfl (by kernel_rfl) rfl ?_
      refine zN ?_
      refine K.d_skip 15 rfl (by kernel_rfl) rfl ?_
      refine zN ?_
      refine K.d_skip 16 rfl (by kernel_rfl) rfl ?_
      refine zN ?_
      refine K.d_skip 17 rfl (by kernel_rfl) rfl ?_
      refine zN ?_
      refine K.d_skip 18 rfl (by kernel_rfl) rfl ?_
      refine zN ?_
      refine K.d_skip 19 rfl (by kernel_rfl) rfl ?_
      refine zN ?_
      refine K.d_skip 20 rfl (by kernel_rfl) rfl ?_
      refine zN ?_
      refine K.d_skip 21 rfl (by kernel_rfl) rfl ?_
      refine zN ?_
      refine K.d_skip 22 rfl (by kernel_rfl) rfl ?_
      refine zN ?_
      refine K.d_skip 23 rfl (by kernel_rfl) rfl ?_
      refine zN ?_
      refine K.d_skip 24 rfl (by kernel_rfl) rfl ?_
      refine zN ?_
      refine K.d_skip 25 rfl (by kernel_rfl) rfl ?_
      refine zN ?_
      refine K.d_skip 26 rfl (by kernel_rfl) rfl ?_
      refine zN ?_
      refine K.d_skip 27 rfl (by kernel_rfl) rfl ?_
      refine zN ?_
      refine K.d_skip 28 rfl (by kernel_rfl) rfl ?_
      refine zN ?_
      refine K.d_skip 29 rfl (by kernel_rfl) rfl ?_
      refine zN ?_
      refine K.d_pure 30 rfl (K.pick_t rfl) (by kernel_rfl) rfl ?_
      refine zn ?_
      refine K.d_done (by kernel_rfl) ?_
      refine K.norm_then ?_
      refine K.cond_true rfl ?_
      refine K.exit ?_
      refine K.exit_then ?_
      refine K.exit_here ?_
      refine K.norm_then ?_
      refine K.region_lit ?_
      refine qp (K.add_i64 rfl rfl (by omega)) ?_
      refine qm ?_
      refine K.seq_nil ?_
      have hsk : skipB r fx a low (lv.getD j default) = true := skip_y (.inl hg56)
      have hmn := minF_skip (rec := costF r lv fx f) hsk
      exact K.round_endW (L'' := K.mq bm none kvs1 :: K.blk bc 97 [.pointer (some ⟨q, 0, none⟩), .slice QL lv.length cL, .map (some bm), .slice QF fx.length cF, .int .i64 ((mthS r : Nat) : Int)] :: K.row (.slice QL lv.length cL) 3 1 lv.length (lv.flatMap K.eI) :: K.row (.slice QF fx.length cF) 3 1 fx.length (fx.flatMap K.eI) :: K.blk q 79 (.slice A r.length c :: dcell (drT r)) :: K.blk b3 101 [.int .i64 (a : Int), .int .i64 low] :: T) [.int .i64 (minF (costF r lv fx f) r lv fx a low j), .int .i64 ((j : Int) + 1)] ⟨j + 1, kvs1, by rw [hmn]; rfl, rfl, hkn1, by omega⟩ (by simp [K.nth, intOf]; omega) ((List.Sublist.refl _)) (by kernel_rfl)
    try replace hg56 := of_decide_eq_false hg56
    refine K.d_pure 5 rfl (K.move) (by kernel_rfl) rfl ?_
    refine zn ?_
    refine K.d_new 6 rfl (K.buildSlice (bs1 _)) (fun _ h => h) (by kernel_rfl) rfl ?_
    intro b58
    refine zN ?_
    refine K.d_call 7 rfl (K.call_g cal_46 (fun F w hF hw => c46_1 hw (hF _ (K.m0)))) (fun _ h => K.tl h) (by kernel_rfl) rfl ?_
    refine zN ?_
    refine K.d_pure 8 rfl (K.pick_f rfl) (by kernel_rfl) rfl ?_
    refine zn ?_
    refine K.d_pure 9 rfl (K.move) (by kernel_rfl) rfl ?_
    refine zn ?_
    refine K.dsplit 61 rfl (fun hg61 => ?_) (fun hg61 => ?_)
    · try replace hg61 := of_decide_eq_true hg61
      refine K.d_skip 10 rfl (by kernel_rfl) rfl ?_
      refine zN ?_
      refine K.d_skip 11 rfl (by kernel_rfl) rfl ?_
      refine zN ?_
      refine K.d_skip 12 rfl (by kernel_rfl) rfl ?_
      refine zN ?_
      refine K.d_skip 13 rfl (by kernel_rfl) rfl ?_
      refine zN ?_
      refine K.d_skip 14 rfl (by kernel_rfl) rfl ?_
      refine zN ?_
      refine K.d_skip 15 rfl (by kernel_rfl) rfl ?_
      refine zN ?_
      refine K.d_skip 16 rfl (by kernel_rfl) rfl ?_
      refine zN ?_
      refine K.d_skip 17 rfl (by kernel_rfl) rfl ?_
      refine zN ?_
      refine K.d_skip 18 rfl (by kernel_rfl) rfl ?_
      refine zN ?_
      refine K.d_skip 19 rfl (by kernel_rfl) rfl ?_
      refine zN ?_
      refine K.d_skip 20 rfl (by kernel_rfl) rfl ?_
      refine zN ?_
      refine K.d_skip 21 rfl (by kernel_rfl) rfl ?_
      refine zN ?_
      refine K.d_skip 22 rfl (by kernel_rfl) rfl ?_
      refine zN ?_
      refine K.d_skip 23 rfl (by kernel_rfl) rfl ?_
      refine zN ?_
      refine K.d_skip 24 rfl (by kernel_rfl) rfl ?_
      refine zN ?_
      refine K.d_skip 25 rfl (by kernel_rfl) rfl ?_
      refine zN ?_
      refine K.d_skip 26 rfl (by kernel_rfl) rfl ?_
      refine zN ?_
      refine K.d_skip 27 rfl (by kernel_rfl) rfl ?_
      refine zN ?_
      refine K.d_skip 28 rfl (by kernel_rfl) rfl ?_
      refine zN ?_
      refine K.d_skip 29 rfl (by kernel_rfl) rfl ?_
      refine zN ?_
      refine K.d_pure 30 rfl (K.pick_t rfl) (by kernel_rfl) rfl ?_
      refine zn ?_
      refine K.d_done (by kernel_rfl) ?_
      refine K.norm_then ?_
      refine K.cond_true rfl ?_
      refine K.exit ?_
      refine K.exit_then ?_
      refine K.exit_here ?_
      refine K.norm_then ?_
      refine K.region_lit ?_
      refine qp (K.add_i64 rfl rfl (by omega)) ?_
      refine qm ?_
      refine K.seq_nil ?_
      have hsk : skipB r fx a low (lv.getD j default) = true := skip_y (.inr (.inl hg61))
      have hmn := minF_skip (rec := costF r lv fx f) hsk
      exact K.round_endW (L'' := K.mq bm none kvs1 :: K.blk bc 97 [.pointer (some ⟨q, 0, none⟩), .slice QL lv.length cL, .map (some bm), .slice QF fx.length cF, .int .i64 ((mthS r : Nat) : Int)] :: K.row (.slice QL lv.length cL) 3 1 lv.length (lv.flatMap K.eI) :: K.row (.slice QF fx.length cF) 3 1 fx.length (fx.flatMap K.eI) :: K.blk q 79 (.slice A r.length c :: dcell (drT r)) :: K.blk b3 101 [.int .i64 (a : Int), .int .i64 low] :: T) [.int .i64 (minF (costF r lv fx f) r lv fx a low j), .int .i64 ((j : Int) + 1)] ⟨j + 1, kvs1, by rw [hmn]; rfl, rfl, hkn1, by omega⟩ (by simp [K.nth, intOf]; omega) ((List.Sublist.cons _ (List.Sublist.refl _))) (by kernel_rfl)
    try replace hg61 := of_decide_eq_false hg61
    refine K.d_pure 10 rfl (K.fieldAddr_lit fo_101_0 rfl) (by kernel_rfl) rfl ?_
    refine zn ?_
    refine K.d_mem 11 rfl (K.load1_own one_3 rfl (K.m5) rfl) (fun _ h => K.tl h) (by kernel_rfl) (by kernel_rfl) rfl ?_
    refine zN ?_
    refine K.d_pure 12 rfl (K.move) (by kernel_rfl) rfl ?_
    refine zn ?_
    refine K.d_pure 13 rfl (K.nilCheck rfl) (by kernel_rfl) rfl ?_
    refine zn ?_
    refine K.d_pure 14 rfl (K.fieldAddr_lit fo_97_3 rfl) (by kernel_rfl) rfl ?_
    refine zn ?_
    refine K.d_mem 15 rfl (K.load1_own one_26 rfl (K.m1) rfl) (fun _ h => K.tl h) (by kernel_rfl) (by kernel_rfl) rfl ?_
    refine zN ?_
    refine K.d_pure 16 rfl (K.len_sl sl_26 rfl) (by kernel_rfl) rfl ?_
    refine zn ?_
    refine K.d_pure 17 rfl (K.lss rfl rfl) (by kernel_rfl) rfl ?_
    refine zn ?_
    refine K.d_pure 18 rfl (K.move) (by kernel_rfl) rfl ?_
    refine zn ?_
    refine K.dsplit 70 rfl (fun hg70 => ?_) (fun hg70 => ?_)
    · try replace hg70 := of_decide_eq_true hg70
      have hafx : a < fx.length := by omega
      refine K.d_pure 19 rfl (K.move) (by kernel_rfl) rfl ?_
      refine zn ?_
      refine K.d_pure 20 rfl (K.nilCheck rfl) (by kernel_rfl) rfl ?_
      refine zn ?_
      refine K.d_pure 21 rfl (K.fieldAddr_lit fo_97_3 rfl) (by kernel_rfl) rfl ?_
      refine zn ?_
      refine K.d_mem 22 rfl (K.load1_own one_26 rfl (K.m1) rfl) (fun _ h => K.tl h) (by kernel_rfl) (by kernel_rfl) rfl ?_
      refine zN ?_
      refine K.d_pure 23 rfl (K.fieldAddr_lit fo_101_0 rfl) (by kernel_rfl) rfl ?_
      refine zn ?_
      refine K.d_mem 24 rfl (K.load1_own one_3 rfl (K.m5) rfl) (fun _ h => K.tl h) (by kernel_rfl) (by kernel_rfl) rfl ?_
      refine zN ?_
      refine K.d_ix (M := [K.row (.slice QF fx.length cF) 3 1 fx.length (fx.flatMap K.eI)]) 25 a rfl (K.Sl.own (w0 := w0) (t := 3) (c := cF) (e := K.eI) hqF (fun _ => rfl)) sl_26 rfl rfl (by omega) (by omega) (by kernel_rfl) rfl ?_
      intro p77 hp77
      refine zN ?_
      refine K.d_mem 26 rfl (K.load1 one_3 rfl (hp77.at1 (K.m3))) (fun _ h => K.tl h) (by kernel_rfl) (by kernel_rfl) rfl ?_
      refine zN ?_
      refine K.d_pure 27 rfl (K.move) (by kernel_rfl) rfl ?_
      refine zn ?_
      refine K.d_pure 28 rfl (K.neq rfl rfl) (by kernel_rfl) rfl ?_
      refine zn ?_
      refine K.d_pure 29 rfl (K.pick_t rfl) (by kernel_rfl) rfl ?_
      refine zn ?_
      refine K.d_pure 30 rfl (K.pick_f rfl) (by kernel_rfl) rfl ?_
      refine zn ?_
      refine K.d_done (by kernel_rfl) ?_
      refine K.norm_then ?_
      refine K.cond rfl (fun ht82 => ?_) (fun ht82 => ?_)
      · try replace ht82 := of_decide_eq_true ht82
        refine K.exit ?_
        refine K.exit_then ?_
        refine K.exit_here ?_
        refine K.norm_then ?_
        refine K.region_lit ?_
        refine qp (K.add_i64 rfl rfl (by omega)) ?_
        refine qm ?_
        refine K.seq_nil ?_
        have hsk : skipB r fx a low (lv.getD j default) = true := skip_y (.inr (.inr ⟨by omega, ht82⟩))
        have hmn := minF_skip (rec := costF r lv fx f) hsk
        exact K.round_endW (L'' := K.mq bm none kvs1 :: K.blk bc 97 [.pointer (some ⟨q, 0, none⟩), .slice QL lv.length cL, .map (some bm), .slice QF fx.length cF, .int .i64 ((mthS r : Nat) : Int)] :: K.row (.slice QL lv.length cL) 3 1 lv.length (lv.flatMap K.eI) :: K.row (.slice QF fx.length cF) 3 1 fx.length (fx.flatMap K.eI) :: K.blk q 79 (.slice A r.length c :: dcell (drT r)) :: K.blk b3 101 [.int .i64 (a : Int), .int .i64 low] :: T) [.int .i64 (minF (costF r lv fx f) r lv fx a low j), .int .i64 ((j : Int) + 1)] ⟨j + 1, kvs1, by rw [hmn]; rfl, rfl, hkn1, by omega⟩ (by simp [K.nth, intOf]; omega) ((List.Sublist.cons _ (List.Sublist.refl _))) (by kernel_rfl)
      try replace ht82 := of_decide_eq_false ht82
      have hskn : skipB r fx a low (lv.getD j default) = false := skip_n hg56 (Decidable.not_not.1 hg61) (fun _ => Decidable.not_not.1 ht82)
      have hsn := skip_no hskn
      refine K.skip ?_
      refine K.norm_then ?_
      refine K.seq ?_
      refine K.draw_L [] Tryd_mixed ?_
      refine K.d_pure 0 rfl (K.move) (by kernel_rfl) rfl ?_
      refine zn ?_
      refine K.d_pure 1 rfl (K.nilCheck rfl) (by kernel_rfl) rfl ?_
      refine zn ?_
      refine K.d_pure 2 rfl (K.fieldAddr_lit fo_97_0 rfl) (by kernel_rfl) rfl ?_
      refine zn ?_
      refine K.d_mem 3 rfl (K.load1_own one_65 rfl (K.m2) rfl) (fun _ h => h) (by kernel_rfl) (by kernel_rfl) rfl ?_
      refine zN ?_
      refine K.d_pure 4 rfl (K.fieldAddr_lit fo_101_0 rfl) (by kernel_rfl) rfl ?_
      refine zn ?_
      refine K.d_mem 5 rfl (K.load1_own one_3 rfl (K.m6) rfl) (fun _ h => h) (by kernel_rfl) (by kernel_rfl) rfl ?_
      refine zN ?_
      refine K.d_call 6 rfl (K.call_g cal_54 (fun F w hF hw => c54 (K.PtrL.now hw (hF _ (K.m5))) (K.blk_lt hw (hF _ (K.m5))) (hR.pass hw) ha)) (fun _ h => h) (by kernel_rfl) rfl ?_
      refine zN ?_
      refine K.d_pure 7 rfl (K.assign) (by kernel_rfl) rfl ?_
      refine zn ?_
      refine K.d_done (by kernel_rfl) ?_
      refine K.norm_then ?_
      refine sr ?_
      iterate 2 refine qm ?_
      refine qp (K.sub_i64 rfl rfl (by omega)) ?_
      iterate 2 refine qm ?_
      refine qp (K.sub_i64 rfl rfl (by omega)) ?_
      refine qp (K.Pure.eq (K.max_int rfl rfl) (show _ = Value.int .i64 (sumF (costF r lv fx f) r a (lv.getD j default) 0) from rfl)) ?_
      refine qa ?_
      refine sn ?_
      refine K.seq ?_
      refine K.seq ?_
      refine K.weak (List.Sublist.cons _ (List.Sublist.cons_cons _ (List.Sublist.cons_cons _ (List.Sublist.cons_cons _ (List.Sublist.cons_cons _ (List.Sublist.cons_cons _ (List.Sublist.cons_cons _ (List.Sublist.refl _)))))))) ?_
      refine K.region_lit ?_
      refine qm ?_
      refine qp (K.nilCheck rfl) ?_
      refine qp (K.fieldAddr_lit fo_97_0 rfl) ?_
      refine K.seq_sil (K.load1_own one_65 rfl (K.m1) rfl) rfl ?_
      refine zN ?_
      refine qp (K.nilCheck rfl) ?_
      refine qp (K.fieldAddr_lit fo_79_0 rfl) ?_
      refine K.seq_sil (K.load1_own one_75 rfl (K.m4) rfl) rfl ?_
      refine zN ?_
      refine qp (K.len_sl sl_75 rfl) ?_
      refine qm ?_
      refine sn ?_
      refine K.block ?_
      refine K.loopW [12, 105] [13, 14, 106, 107, 108, 109, 110, 111, 112, 113, 114, 115, 116, 117, 118, 119, 120, 121, 122] (fun vi L => ∃ (k : Nat) (kvs2 : List (Value × Int)), vi = [.int .i64 (sumF (costF r lv fx f) r a (lv.getD j default) k), .int .i64 (k : Int)] ∧ L = K.mq bm none kvs2 :: K.blk bc 97 [.pointer (some ⟨q, 0, none⟩), .slice QL lv.length cL, .map (some bm), .slice QF fx.length cF, .int .i64 ((mthS r : Nat) : Int)] :: K.row (.slice QL lv.length cL) 3 1 lv.length (lv.flatMap K.eI) :: K.row (.slice QF fx.length cF) 3 1 fx.length (fx.flatMap K.eI) :: K.blk q 79 (.slice A r.length c :: dcell (drT r)) :: K.blk b3 101 [.int .i64 (a : Int), .int .i64 low] :: T ∧ KnOk r lv fx kvs2 ∧ k ≤ r.length) (fun vi => r.length - (intOf (K.nth vi 1)).toNat) ?_ ?_
      · exact ⟨0, kvs1, rfl, rfl, hkn1, Nat.zero_le _⟩
      intro vi vr L hJ
      obtain ⟨k, kvs2, rfl, rfl, hkn2, hkn0⟩ := hJ
      try dsimp only [setd, setn, ev, nth, over, cl, eI, eP, eT, eR, setM, setF, List.map, List.append, List.drop, List.take]
      refine sr ?_
      refine qp (K.lss rfl rfl) ?_
      refine sn ?_
      refine K.seq ?_
      refine K.cond rfl (fun ht106 => ?_) (fun ht106 => ?_)
      · try replace ht106 := of_decide_eq_true ht106
        have hk : k < r.length := by omega
        have hsb := sumF_bd' (l := (lv.getD j default)) (cost_bd (lv := lv) (fx := fx) g f) (ownC_bd g ha hsn.2.1) k hkn0
        have hcb := cost_bd (lv := lv) (fx := fx) g f k hk (lv.getD j default)
        unfold neverS at hsb hcb
        refine K.skip ?_
        refine K.norm_then ?_
        refine K.seq ?_
        refine K.block ?_
        refine sr ?_
        refine qm ?_
        refine K.seq_ix (M := []) _ hR.sl sl_75 rfl rfl rfl (by omega) rfl ?_
        intro p108 hp108
        refine zN ?_
        refine K.seq_sil (K.loadA_p ag_44 rfl (hp108.any) rfl) rfl ?_
        refine zN ?_
        refine K.seq_new (K.alloc zr_44) rfl ?_
        intro b14
        refine zN ?_
        refine qa ?_
        refine K.seq_st (K.store_all sz_44 rfl rfl rfl rfl (K.rp0)) rfl ?_
        refine zN ?_
        refine sn ?_
        refine sr ?_
        refine qp (K.fieldAddr_lit fo_44_1 rfl) ?_
        refine K.seq_sil (K.load1_own one_3 rfl (K.m0) rfl) rfl ?_
        refine zN ?_
        refine qp (K.fieldAddr_lit fo_101_0 rfl) ?_
        refine K.seq_sil (K.load1_own one_3 rfl (K.m6) rfl) rfl ?_
        refine zN ?_
        refine qp (K.eql rfl rfl) ?_
        refine sn ?_
        refine K.cond rfl (fun ht114 => ?_) (fun ht114 => ?_)
        · try replace ht114 := of_decide_eq_true ht114
          have hdk : dep r k = dep r a + 1 := by
            have hm : (r.getD k default).dn ≠ -1 := by omega
            have h2 := dep_d g hk hm
            rw [ht114, Int.toNat_natCast] at h2
            exact h2
          refine K.weak (List.Sublist.cons _ (List.Sublist.cons_cons _ (List.Sublist.cons_cons _ (List.Sublist.cons_cons _ (List.Sublist.cons_cons _ (List.Sublist.cons_cons _ (List.Sublist.cons_cons _ (List.Sublist.refl _)))))))) ?_
          refine K.region_lit ?_
          iterate 4 refine qm ?_
          refine K.seq_pure (K.build (bl101 _ _)) rfl ?_
          refine zN ?_
          refine K.seq_upd (K.callU_f cal_77 (fun w hw => IH (a := k) (low := (lv.getD j default)) (T := K.blk b3 101 [.int .i64 (a : Int), .int .i64 low] :: T) hw hkn2 hk (by omega) (by omega))) rfl ?_
          rintro z120 hz120
          refine zN ?_
          obtain ⟨hz1, hz2⟩ := hz120
          have hz120 : z120.1 = costF r lv fx f k (lv.getD j default) ∧ KnOk r lv fx z120.2 := ⟨hz1, hz2⟩
          rw [hz1]
          refine zN ?_
          refine qp (K.add_i64 rfl rfl (by omega)) ?_
          refine qa ?_
          refine K.seq_nil ?_
          refine K.norm_block ?_
          refine K.norm_then ?_
          refine K.region_lit ?_
          refine qp (K.add_i64 rfl rfl (by omega)) ?_
          refine qm ?_
          refine K.seq_nil ?_
          have hsm := sumF_yes (rec := costF r lv fx f) (l := (lv.getD j default)) ht114
          exact K.round_endW (L'' := K.mq bm none z120.2 :: K.blk bc 97 [.pointer (some ⟨q, 0, none⟩), .slice QL lv.length cL, .map (some bm), .slice QF fx.length cF, .int .i64 ((mthS r : Nat) : Int)] :: K.row (.slice QL lv.length cL) 3 1 lv.length (lv.flatMap K.eI) :: K.row (.slice QF fx.length cF) 3 1 fx.length (fx.flatMap K.eI) :: K.blk q 79 (.slice A r.length c :: dcell (drT r)) :: K.blk b3 101 [.int .i64 (a : Int), .int .i64 low] :: T) [.int .i64 (sumF (costF r lv fx f) r a (lv.getD j default) k + costF r lv fx f k (lv.getD j default)), .int .i64 ((k : Int) + 1)] ⟨k + 1, z120.2, by rw [hsm]; rfl, rfl, hz120.2, by omega⟩ (by simp [K.nth, intOf]; omega) ((List.Sublist.refl _)) (by kernel_rfl)
        try replace ht114 := of_decide_eq_false ht114
        refine K.skip ?_
        refine K.norm_block ?_
        refine K.norm_then ?_
        refine K.region_lit ?_
        refine qp (K.add_i64 rfl rfl (by omega)) ?_
        refine qm ?_
        refine K.seq_nil ?_
        have hsm := sumF_no (rec := costF r lv fx f) (l := (lv.getD j default)) ht114
        exact K.round_endW (L'' := K.mq bm none kvs2 :: K.blk bc 97 [.pointer (some ⟨q, 0, none⟩), .slice QL lv.length cL, .map (some bm), .slice QF fx.length cF, .int .i64 ((mthS r : Nat) : Int)] :: K.row (.slice QL lv.length cL) 3 1 lv.length (lv.flatMap K.eI) :: K.row (.slice QF fx.length cF) 3 1 fx.length (fx.flatMap K.eI) :: K.blk q 79 (.slice A r.length c :: dcell (drT r)) :: K.blk b3 101 [.int .i64 (a : Int), .int .i64 low] :: T) [.int .i64 (sumF (costF r lv fx f) r a (lv.getD j default) k), .int .i64 ((k : Int) + 1)] ⟨k + 1, kvs2, by rw [hsm]; rfl, rfl, hkn2, by omega⟩ (by simp [K.nth, intOf]; omega) ((List.Sublist.cons _ (List.Sublist.refl _))) (by kernel_rfl)
      try replace ht106 := of_decide_eq_false ht106
      refine K.exit ?_
      refine K.exit_then ?_
      refine K.exit_then ?_
      refine K.exit_here ?_
      refine K.norm_then ?_
      refine K.region_lit ?_
      iterate 2 refine qm ?_
      refine qp (K.min_int rfl rfl) ?_
      refine qa ?_
      refine K.seq_nil ?_
      refine K.norm_block ?_
      refine K.norm_then ?_
      refine K.region_lit ?_
      refine qp (K.add_i64 rfl rfl (by omega)) ?_
      refine qm ?_
      refine K.seq_nil ?_
      have e0 : k = r.length := by omega
      subst e0
      have hmn := minF_more (rec := costF r lv fx f) hskn
      exact K.round_endW (L'' := K.mq bm none kvs2 :: K.blk bc 97 [.pointer (some ⟨q, 0, none⟩), .slice QL lv.length cL, .map (some bm), .slice QF fx.length cF, .int .i64 ((mthS r : Nat) : Int)] :: K.row (.slice QL lv.length cL) 3 1 lv.length (lv.flatMap K.eI) :: K.row (.slice QF fx.length cF) 3 1 fx.length (fx.flatMap K.eI) :: K.blk q 79 (.slice A r.length c :: dcell (drT r)) :: K.blk b3 101 [.int .i64 (a : Int), .int .i64 low] :: T) [.int .i64 (min (minF (costF r lv fx f) r lv fx a low j) (sumF (costF r lv fx f) r a (lv.getD j default) r.length)), .int .i64 ((j : Int) + 1)] ⟨j + 1, kvs2, by rw [hmn]; rfl, rfl, hkn2, by omega⟩ (by simp [K.nth, intOf]; omega) ((List.Sublist.refl _)) (by kernel_rfl)
    try replace hg70 := of_decide_eq_false hg70
    have hskn : skipB r fx a low (lv.getD j default) = false := skip_n hg56 (Decidable.not_not.1 hg61) (fun h => absurd (by omega) hg70)
    have hsn := skip_no hskn
    refine K.d_skip 19 rfl (by kernel_rfl) rfl ?_
    refine zN ?_
    refine K.d_skip 20 rfl (by kernel_rfl) rfl ?_
    refine zN ?_
    refine K.d_skip 21 rfl (by kernel_rfl) rfl ?_
    refine zN ?_
    refine K.d_skip 22 rfl (by kernel_rfl) rfl ?_
    refine zN ?_
    refine K.d_skip 23 rfl (by kernel_rfl) rfl ?_
    refine zN ?_
    refine K.d_skip 24 rfl (by kernel_rfl) rfl ?_
    refine zN ?_
    refine K.d_skip 25 rfl (by kernel_rfl) rfl ?_
    refine zN ?_
    refine K.d_skip 26 rfl (by kernel_rfl) rfl ?_
    refine zN ?_
    refine K.d_skip 27 rfl (by kernel_rfl) rfl ?_
    refine zN ?_
    refine K.d_skip 28 rfl (by kernel_rfl) rfl ?_
    refine zN ?_
    refine K.d_pure 29 rfl (K.pick_f rfl) (by kernel_rfl) rfl ?_
    refine zn ?_
    refine K.d_pure 30 rfl (K.pick_f rfl) (by kernel_rfl) rfl ?_
    refine zn ?_
    refine K.d_done (by kernel_rfl) ?_
    refine K.norm_then ?_
    refine K.cond_false rfl ?_
    refine K.skip ?_
    refine K.norm_then ?_
    refine K.seq ?_
    refine K.draw_L [] Tryd_mixed ?_
    refine K.d_pure 0 rfl (K.move) (by kernel_rfl) rfl ?_
    refine zn ?_
    refine K.d_pure 1 rfl (K.nilCheck rfl) (by kernel_rfl) rfl ?_
    refine zn ?_
    refine K.d_pure 2 rfl (K.fieldAddr_lit fo_97_0 rfl) (by kernel_rfl) rfl ?_
    refine zn ?_
    refine K.d_mem 3 rfl (K.load1_own one_65 rfl (K.m2) rfl) (fun _ h => h) (by kernel_rfl) (by kernel_rfl) rfl ?_
    refine zN ?_
    refine K.d_pure 4 rfl (K.fieldAddr_lit fo_101_0 rfl) (by kernel_rfl) rfl ?_
    refine zn ?_
    refine K.d_mem 5 rfl (K.load1_own one_3 rfl (K.m6) rfl) (fun _ h => h) (by kernel_rfl) (by kernel_rfl) rfl ?_
    refine zN ?_
    refine K.d_call 6 rfl (K.call_g cal_54 (fun F w hF hw => c54 (K.PtrL.now hw (hF _ (K.m5))) (K.blk_lt hw (hF _ (K.m5))) (hR.pass hw) ha)) (fun _ h => h) (by kernel_rfl) rfl ?_
    refine zN ?_
    refine K.d_pure 7 rfl (K.assign) (by kernel_rfl) rfl ?_
    refine zn ?_
    refine K.d_done (by kernel_rfl) ?_
    refine K.norm_then ?_
    refine sr ?_
    iterate 2 refine qm ?_
    refine qp (K.sub_i64 rfl rfl (by omega)) ?_
    iterate 2 refine qm ?_
    refine qp (K.sub_i64 rfl rfl (by omega)) ?_
    refine qp (K.Pure.eq (K.max_int rfl rfl) (show _ = Value.int .i64 (sumF (costF r lv fx f) r a (lv.getD j default) 0) from rfl)) ?_
    refine qa ?_
    refine sn ?_
    refine K.seq ?_
    refine K.seq ?_
    refine K.weak (List.Sublist.cons _ (List.Sublist.cons_cons _ (List.Sublist.cons_cons _ (List.Sublist.cons_cons _ (List.Sublist.cons_cons _ (List.Sublist.cons_cons _ (List.Sublist.cons_cons _ (List.Sublist.refl _)))))))) ?_
    refine K.region_lit ?_
    refine qm ?_
    refine qp (K.nilCheck rfl) ?_
    refine qp (K.fieldAddr_lit fo_97_0 rfl) ?_
    refine K.seq_sil (K.load1_own one_65 rfl (K.m1) rfl) rfl ?_
    refine zN ?_
    refine qp (K.nilCheck rfl) ?_
    refine qp (K.fieldAddr_lit fo_79_0 rfl) ?_
    refine K.seq_sil (K.load1_own one_75 rfl (K.m4) rfl) rfl ?_
    refine zN ?_
    refine qp (K.len_sl sl_75 rfl) ?_
    refine qm ?_
    refine sn ?_
    refine K.block ?_
    refine K.loopW [12, 105] [13, 14, 106, 107, 108, 109, 110, 111, 112, 113, 114, 115, 116, 117, 118, 119, 120, 121, 122] (fun vi L => ∃ (k : Nat) (kvs2 : List (Value × Int)), vi = [.int .i64 (sumF (costF r lv fx f) r a (lv.getD j default) k), .int .i64 (k : Int)] ∧ L = K.mq bm none kvs2 :: K.blk bc 97 [.pointer (some ⟨q, 0, none⟩), .slice QL lv.length cL, .map (some bm), .slice QF fx.length cF, .int .i64 ((mthS r : Nat) : Int)] :: K.row (.slice QL lv.length cL) 3 1 lv.length (lv.flatMap K.eI) :: K.row (.slice QF fx.length cF) 3 1 fx.length (fx.flatMap K.eI) :: K.blk q 79 (.slice A r.length c :: dcell (drT r)) :: K.blk b3 101 [.int .i64 (a : Int), .int .i64 low] :: T ∧ KnOk r lv fx kvs2 ∧ k ≤ r.length) (fun vi => r.length - (intOf (K.nth vi 1)).toNat) ?_ ?_
    · exact ⟨0, kvs1, rfl, rfl, hkn1, Nat.zero_le _⟩
    intro vi vr L hJ
    obtain ⟨k, kvs2, rfl, rfl, hkn2, hkn0⟩ := hJ
    try dsimp only [setd, setn, ev, nth, over, cl, eI, eP, eT, eR, setM, setF, List.map, List.append, List.drop, List.take]
    refine sr ?_
    refine qp (K.lss rfl rfl) ?_
    refine sn ?_
    refine K.seq ?_
    refine K.cond rfl (fun ht106 => ?_) (fun ht106 => ?_)
    · try replace ht106 := of_decide_eq_true ht106
      have hk : k < r.length := by omega
      have hsb := sumF_bd' (l := (lv.getD j default)) (cost_bd (lv := lv) (fx := fx) g f) (ownC_bd g ha hsn.2.1) k hkn0
      have hcb := cost_bd (lv := lv) (fx := fx) g f k hk (lv.getD j default)
      unfold neverS at hsb hcb
      refine K.skip ?_
      refine K.norm_then ?_
      refine K.seq ?_
      refine K.block ?_
      refine sr ?_
      refine qm ?_
      refine K.seq_ix (M := []) _ hR.sl sl_75 rfl rfl rfl (by omega) rfl ?_
      intro p108 hp108
      refine zN ?_
      refine K.seq_sil (K.loadA_p ag_44 rfl (hp108.any) rfl) rfl ?_
      refine zN ?_
      refine K.seq_new (K.alloc zr_44) rfl ?_
      intro b14
      refine zN ?_
      refine qa ?_
      refine K.seq_st (K.store_all sz_44 rfl rfl rfl rfl (K.rp0)) rfl ?_
      refine zN ?_
      refine sn ?_
      refine sr ?_
      refine qp (K.fieldAddr_lit fo_44_1 rfl) ?_
      refine K.seq_sil (K.load1_own one_3 rfl (K.m0) rfl) rfl ?_
      refine zN ?_
      refine qp (K.fieldAddr_lit fo_101_0 rfl) ?_
      refine K.seq_sil (K.load1_own one_3 rfl (K.m6) rfl) rfl ?_
      refine zN ?_
      refine qp (K.eql rfl rfl) ?_
      refine sn ?_
      refine K.cond rfl (fun ht114 => ?_) (fun ht114 => ?_)
      · try replace ht114 := of_decide_eq_true ht114
        have hdk : dep r k = dep r a + 1 := by
          have hm : (r.getD k default).dn ≠ -1 := by omega
          have h2 := dep_d g hk hm
          rw [ht114, Int.toNat_natCast] at h2
          exact h2
        refine K.weak (List.Sublist.cons _ (List.Sublist.cons_cons _ (List.Sublist.cons_cons _ (List.Sublist.cons_cons _ (List.Sublist.cons_cons _ (List.Sublist.cons_cons _ (List.Sublist.cons_cons _ (List.Sublist.refl _)))))))) ?_
        refine K.region_lit ?_
        iterate 4 refine qm ?_
        refine K.seq_pure (K.build (bl101 _ _)) rfl ?_
        refine zN ?_
        refine K.seq_upd (K.callU_f cal_77 (fun w hw => IH (a := k) (low := (lv.getD j default)) (T := K.blk b3 101 [.int .i64 (a : Int), .int .i64 low] :: T) hw hkn2 hk (by omega) (by omega))) rfl ?_
        rintro z120 hz120
        refine zN ?_
        obtain ⟨hz1, hz2⟩ := hz120
        have hz120 : z120.1 = costF r lv fx f k (lv.getD j default) ∧ KnOk r lv fx z120.2 := ⟨hz1, hz2⟩
        rw [hz1]
        refine zN ?_
        refine qp (K.add_i64 rfl rfl (by omega)) ?_
        refine qa ?_
        refine K.seq_nil ?_
        refine K.norm_block ?_
        refine K.norm_then ?_
        refine K.region_lit ?_
        refine qp (K.add_i64 rfl rfl (by omega)) ?_
        refine qm ?_
        refine K.seq_nil ?_
        have hsm := sumF_yes (rec := costF r lv fx f) (l := (lv.getD j default)) ht114
        exact K.round_endW (L'' := K.mq bm none z120.2 :: K.blk bc 97 [.pointer (some ⟨q, 0, none⟩), .slice QL lv.length cL, .map (some bm), .slice QF fx.length cF, .int .i64 ((mthS r : Nat) : Int)] :: K.row (.slice QL lv.length cL) 3 1 lv.length (lv.flatMap K.eI) :: K.row (.slice QF fx.length cF) 3 1 fx.length (fx.flatMap K.eI) :: K.blk q 79 (.slice A r.length c :: dcell (drT r)) :: K.blk b3 101 [.int .i64 (a : Int), .int .i64 low] :: T) [.int .i64 (sumF (costF r lv fx f) r a (lv.getD j default) k + costF r lv fx f k (lv.getD j default)), .int .i64 ((k : Int) + 1)] ⟨k + 1, z120.2, by rw [hsm]; rfl, rfl, hz120.2, by omega⟩ (by simp [K.nth, intOf]; omega) ((List.Sublist.refl _)) (by kernel_rfl)
      try replace ht114 := of_decide_eq_false ht114
      refine K.skip ?_
      refine K.norm_block ?_
      refine K.norm_then ?_
      refine K.region_lit ?_
      refine qp (K.add_i64 rfl rfl (by omega)) ?_
      refine qm ?_
      refine K.seq_nil ?_
      have hsm := sumF_no (rec := costF r lv fx f) (l := (lv.getD j default)) ht114
      exact K.round_endW (L'' := K.mq bm none kvs2 :: K.blk bc 97 [.pointer (some ⟨q, 0, none⟩), .slice QL lv.length cL, .map (some bm), .slice QF fx.length cF, .int .i64 ((mthS r : Nat) : Int)] :: K.row (.slice QL lv.length cL) 3 1 lv.length (lv.flatMap K.eI) :: K.row (.slice QF fx.length cF) 3 1 fx.length (fx.flatMap K.eI) :: K.blk q 79 (.slice A r.length c :: dcell (drT r)) :: K.blk b3 101 [.int .i64 (a : Int), .int .i64 low] :: T) [.int .i64 (sumF (costF r lv fx f) r a (lv.getD j default) k), .int .i64 ((k : Int) + 1)] ⟨k + 1, kvs2, by rw [hsm]; rfl, rfl, hkn2, by omega⟩ (by simp [K.nth, intOf]; omega) ((List.Sublist.cons _ (List.Sublist.refl _))) (by kernel_rfl)
    try replace ht106 := of_decide_eq_false ht106
    refine K.exit ?_
    refine K.exit_then ?_
    refine K.exit_then ?_
    refine K.exit_here ?_
    refine K.norm_then ?_
    refine K.region_lit ?_
    iterate 2 refine qm ?_
    refine qp (K.min_int rfl rfl) ?_
    refine qa ?_
    refine K.seq_nil ?_
    refine K.norm_block ?_
    refine K.norm_then ?_
    refine K.region_lit ?_
    refine qp (K.add_i64 rfl rfl (by omega)) ?_
    refine qm ?_
    refine K.seq_nil ?_
    have e0 : k = r.length := by omega
    subst e0
    have hmn := minF_more (rec := costF r lv fx f) hskn
    exact K.round_endW (L'' := K.mq bm none kvs2 :: K.blk bc 97 [.pointer (some ⟨q, 0, none⟩), .slice QL lv.length cL, .map (some bm), .slice QF fx.length cF, .int .i64 ((mthS r : Nat) : Int)] :: K.row (.slice QL lv.length cL) 3 1 lv.length (lv.flatMap K.eI) :: K.row (.slice QF fx.length cF) 3 1 fx.length (fx.flatMap K.eI) :: K.blk q 79 (.slice A r.length c :: dcell (drT r)) :: K.blk b3 101 [.int .i64 (a : Int), .int .i64 low] :: T) [.int .i64 (min (minF (costF r lv fx f) r lv fx a low j) (sumF (costF r lv fx f) r a (lv.getD j default) r.length)), .int .i64 ((j : Int) + 1)] ⟨j + 1, kvs2, by rw [hmn]; rfl, rfl, hkn2, by omega⟩ (by simp [K.nth, intOf]; omega) ((List.Sublist.refl _)) (by kernel_rfl)
  try replace ht32 := of_decide_eq_false ht32
  refine K.exit ?_
  refine K.exit_then ?_
  refine K.exit_then ?_
  refine K.exit_here ?_
  refine K.norm_then ?_
  refine K.seq ?_
  refine K.draw_L [6] Tryd_mixed ?_
  refine K.d_pure 0 rfl (K.move) (by kernel_rfl) rfl ?_
  refine zn ?_
  refine K.d_pure 1 rfl (K.nilCheck rfl) (by kernel_rfl) rfl ?_
  refine zn ?_
  refine K.d_pure 2 rfl (K.fieldAddr_lit fo_97_2 rfl) (by kernel_rfl) rfl ?_
  refine zn ?_
  refine K.d_mem 3 rfl (K.load1_own one_95 rfl (K.m1) rfl) (fun _ h => h) (by kernel_rfl) (by kernel_rfl) rfl ?_
  refine zN ?_
  refine K.d_mem 4 rfl (K.loadA_own ag_101 rfl (K.m5) rfl) (fun _ h => h) (by kernel_rfl) (by kernel_rfl) rfl ?_
  refine zN ?_
  refine K.d_pure 5 rfl (K.move) (by kernel_rfl) rfl ?_
  refine zn ?_
  refine K.d_last 6 rfl (K.mapUpdate_mq mapC rfl rfl rfl (keyC (by omega) (by omega)) (keyCs g hkn1) (fun _ => K.rp0)) rfl (by kernel_rfl) rfl ?_
  rintro kvs6 hput6
  refine zN ?_
  refine K.d_done (by kernel_rfl) ?_
  refine K.norm_then ?_
  refine sr ?_
  refine qm ?_
  refine qa ?_
  refine sn ?_
  refine K.ret ?_
  refine K.end_ret (fun w _ => K.res_tmp rfl w) ?_
  have e0 : j = lv.length := by omega
  subst e0
  have hkp : KnOk r lv fx kvs6 := kn_put hkn1 ha hlo (by rw [← hf]; exact hput6)
  exact K.retsU (costF r lv fx (f + 1) a low, kvs6) ⟨rfl, hkp⟩ rfl ((List.Sublist.cons_cons _ (List.Sublist.cons_cons _ (List.Sublist.cons_cons _ (List.Sublist.cons_cons _ (List.Sublist.cons_cons _ (List.Sublist.cons _ (List.Sublist.refl _))))))))

theorem c77 {r : List RvT} {A : Option Addr} {c q : Nat} {w0 : World} (hR : K.Rd w0 A 4 eR r) (g : Good r) {lv fx : List Int} {QL QF : Option Addr} {cL cF bm bc : Nat} (hlv : ∀ x ∈ lv, -4500 ≤ x ∧ x ≤ 9000) (hll : lv.length ≤ 27) (hfl : fx.length ≤ 9) (hqL : lv.length = 0 ∨ ∃ b, QL = some ⟨b, 0, none⟩) (hqF : fx.length = 0 ∨ ∃ b, QF = some ⟨b, 0, none⟩) : ∀ f, Go77 r A c q lv fx QL QF cL cF bm bc f w0
  | 0 => fun _ _ ha _ hf => absurd hf (by have := (dep_is g ha).1; omega)
  | f + 1 => fun h1 h2 h3 h4 h5 => c77_s hR g hlv hll hfl hqL hqF (c77 hR g hlv hll hfl hqL hqF f) h1 h2 h3 h4 h5


end Go.Proofs.YtoemnobfnnjopaaDoor
end
section
set_option linter.unusedSimpArgs false
set_option linter.unusedVariables false
namespace Go.Proofs.YtoemnobfnnjopaaDoor
open Go.RowKit Go
open Go.K (setd setn ev nth over cl eI eP eT setM setF)
attribute [local irreducible] K.blk K.row
theorem bl97 (z : Int) (p : Addr) : K.Bl Tryd.prog 97 [(0, .pointer (some p)), (4, .int .i64 z)] (.agg #[.pointer (some p), .slice none 0 0, .map none, .slice none 0 0, .int .i64 z]) := fun w => by kernel_rfl
theorem bs3 (x y z : Int) : K.Bs Tryd.prog 26 3 [(0, .int .i64 x), (1, .int .i64 y), (2, .int .i64 z)] 3 [.int .i64 x, .int .i64 y, .int .i64 z] := fun w => by kernel_rfl
def RetI (z : Int) (xs : List Int) (e : Int) (w : World) : Ending → World → Prop :=
  K.Ret (fun r : Option Addr × Nat => xs.length = 0 ∨ ∃ b, r.1 = some ⟨b, 0, none⟩) (fun r => .tuple #[.int .i64 z, .slice r.1 xs.length r.2, .int .i64 e]) (fun r => [K.row (.slice r.1 xs.length r.2) 3 1 xs.length (xs.flatMap K.eI)]) w
theorem reti {w0 w : World} {L : List K.Chunk} {A : Option Addr} {n c : Nat} {ys : List Value} {xs : List Int} {z z' e e' : Int} {v : Value} (hm : K.row (.slice A n c) 3 1 n ys ∈ L) (hn : n = xs.length) (hys : ys = xs.flatMap K.eI) (hz : z = z') (he : e = e') (hv : v = .tuple #[.int .i64 z, .slice A n c, .int .i64 e]) : K.Hold w L (RetI z' xs e' w (.returned v)) := by
  subst hn hys hz he hv
  exact K.use_row hm fun h => K.rets (A, c) h rfl (by simpa using hm)
theorem reti_0 {w : World} {L : List K.Chunk} {xs : List Int} {z z' e e' : Int} {v : Value} (hx : xs = []) (hz : z = z') (he : e = e') (hv : v = .tuple #[.int .i64 z, .slice none 0 0, .int .i64 e]) : K.Hold w L (RetI z' xs e' w (.returned v)) := by
  subst hx
  exact K.nil_row (e := 3) (size := 1) (reti (w0 := w) (List.Mem.head _) rfl rfl hz he hv)

set_option maxRecDepth 100000 in
theorem c76 {r : List RvT} {A : Option Addr} {c q : Nat} {w0 : World} (hR : K.Rd w0 A 4 eR r) (g : Good r) {lv fx : List Int} {QL QF : Option Addr} {cL cF bc nl nf : Nat} {vl vf : List Value} {mv : Value} {T : List K.Chunk} {w : World} (hst : K.St w0 (K.blk bc 97 [.pointer (some ⟨q, 0, none⟩), .slice QL nl cL, mv, .slice QF nf cF, .int .i64 ((mthS r : Nat) : Int)] :: K.row (.slice QL nl cL) 3 1 nl vl :: K.row (.slice QF nf cF) 3 1 nf vf :: K.blk q 79 (.slice A r.length c :: dcell (drT r)) :: T) w) (hnl : nl = lv.length) (hvl : vl = lv.flatMap K.eI) (hnf : nf = fx.length) (hvf : vf = fx.flatMap K.eI) (hlv : ∀ x ∈ lv, -4500 ≤ x ∧ x ≤ 9000) (hll : lv.length ≤ 27) (hfl : fx.length ≤ 9) :
    Calls Tryd.prog 76 [.pointer (some ⟨bc, 0, none⟩)].toArray w (K.RetU (fun _ : Nat => True) (fun _ => .int .i64 (askS r lv fx)) w0 (fun z => K.blk bc 97 [.pointer (some ⟨q, 0, none⟩), .slice QL nl cL, .map (some z), .slice QF nf cF, .int .i64 ((mthS r : Nat) : Int)] :: K.row (.slice QL nl cL) 3 1 nl vl :: K.row (.slice QF nf cF) 3 1 nf vf :: K.blk q 79 (.slice A r.length c :: dcell (drT r)) :: T)) := by
  subst hnl hvl hnf hvf
  have hgn := g.n
  have hmt := mth_is g
  have hd0 : dep r (mthS r) = 0 := (dep_m g hmt.1).2 hmt.2.1
  refine K.enterU (args := [.pointer (some ⟨bc, 0, none⟩)]) Tryd.func76 rfl (n := 7) rfl hst ?_
  simp only [List.replicate, List.cons_append, List.nil_append]
  refine sr ?_
  refine qa ?_
  refine sn ?_
  refine sr ?_
  refine K.seq_new (K.mkMap_q) rfl ?_
  intro b2
  refine zN ?_
  refine qp (K.fieldAddr_lit fo_97_2 rfl) ?_
  refine K.seq_st (K.store sz_95 rfl rfl rfl rfl (K.rp1)) rfl ?_
  refine zN ?_
  refine sn ?_
  refine K.seq ?_
  refine K.use_row (A := QL) K.m2 (fun hqL => ?_)
  refine K.use_row (A := QF) K.m3 (fun hqF => ?_)
  refine K.region_lit ?_
  refine qp (K.fieldAddr_lit fo_97_4 rfl) ?_
  refine K.seq_sil (K.load1_own one_3 rfl (K.m1) rfl) rfl ?_
  refine zN ?_
  refine K.seq_pure (K.build (bl101 _ _)) rfl ?_
  refine zN ?_
  refine K.seq_upd (K.callU_f cal_77 (fun w hw => c77 hR g hlv hll hfl hqL hqF (r.length + 1) (a := mthS r) (low := -9000) (T := T) hw kn_nil hmt.1 (by omega) (by rw [hd0]; rfl))) rfl ?_
  rintro ⟨n7, kv7⟩ hz7
  refine zN ?_
  refine qa ?_
  refine sn ?_
  refine K.ret ?_
  refine K.end_ret (fun w _ => K.res_tmp rfl w) ?_
  have hv7 : n7 = askS r lv fx := hz7.1
  exact K.retsU b2 trivial (by rw [← hv7]; rfl) ((List.Sublist.cons _ (List.Sublist.refl _)))

set_option maxRecDepth 100000 in
theorem e32 {r : List RvT} {A : Option Addr} {c : Nat} {w : World} (hR : K.Rd w A 4 eR r) (hn : r.length ≤ 4611686018427387904) (hc : (chk r).2.2 ≠ 0) :
    Calls Tryd.prog 32 [.slice A r.length c].toArray w (RetI (lstC r) (lstL r) (chk r).2.2 w) := by
  refine K.enter (args := [.slice A r.length c]) Tryd.func32 rfl (n := 101) rfl ?_
  simp only [List.replicate, List.cons_append, List.nil_append]
  refine sr ?_
  iterate 3 refine qa ?_
  refine sn ?_
  refine sr ?_
  refine qm ?_
  refine K.seq_call (K.call_g cal_52 (fun F w hF hw => e52 (hR.pass hw) hn hc)) rfl ?_
  refine zN ?_
  refine qm ?_
  refine qx ?_
  refine qx ?_
  iterate 2 refine qa ?_
  refine sn ?_
  refine K.seq ?_
  refine sr ?_
  refine qm ?_
  refine qp (K.neq rfl rfl) ?_
  refine sn ?_
  refine K.cond_true (by exact congrArg Value.bool (decide_eq_true hc)) ?_
  refine sr ?_
  refine qm ?_
  iterate 3 refine qa ?_
  refine sn ?_
  refine K.ret ?_
  refine K.ret_then ?_
  refine K.end_ret (fun w _ => K.res_ttt rfl w) ?_
  exact reti_0 (by unfold lstL; rw [if_pos hc]) (by unfold lstC; rw [if_pos hc]) rfl rfl

set_option maxRecDepth 100000 in
set_option maxHeartbeats 4000000 in
theorem g32 {r : List RvT} {A : Option Addr} {c : Nat} {w : World} (hR : K.Rd w A 4 eR r) (hn : r.length ≤ 4611686018427387904) (hc : (chk r).2.2 = 0) :
    Calls Tryd.prog 32 [.slice A r.length c].toArray w (RetI (lstC r) (lstL r) (chk r).2.2 w) := by
  have g : Good r := chk_good hc
  have hgn := g.n
  have hmt := mth_is g
  have hll := @levS_len r
  have hNL : (levU r r.length).length = (levS r).length := by rw [levS_len, levU_len]
  have hix : K.idx (fun p : RvT => decide (p.dn = -1)) r = ((mthS r : Nat) : Int) := K.idx_found hmt.1 (fun j hj => decide_eq_false (fun h => by have := hmt.2.2 j (by omega) h; omega)) (decide_eq_true hmt.2.1)
  refine K.enter (args := [.slice A r.length c]) Tryd.func32 rfl (n := 101) rfl ?_
  simp only [List.replicate, List.cons_append, List.nil_append]
  refine sr ?_
  iterate 3 refine qa ?_
  refine sn ?_
  refine sr ?_
  refine qm ?_
  refine K.seq_loud (K.call_f cal_52 (fun F w hF hw => g52 (hR.pass hw) hn hc)) rfl ?_
  rintro q _
  refine zN ?_
  refine qm ?_
  refine qx ?_
  refine qx ?_
  iterate 2 refine qa ?_
  refine sn ?_
  refine K.seq ?_
  refine sr ?_
  refine qm ?_
  refine qp (K.neq rfl rfl) ?_
  refine sn ?_
  refine K.cond_false (by rfl) ?_
  refine K.skip ?_
  refine K.norm_then ?_
  refine sr ?_
  iterate 2 refine qm ?_
  refine K.seq_call (K.call_g cal_73 (fun F w hF hw => (by have hg := c73 (c := c) (f := 74) (cap := []) (p := fun p : RvT => decide (p.dn = -1)) (hR.pass hw) hn cal_74 (fun x _ w1 _ => c74); rw [hix] at hg; exact hg))) rfl ?_
  refine zN ?_
  refine K.seq_pure (K.build (bl97 _ _)) rfl ?_
  refine zN ?_
  refine K.seq_new (K.alloc zr_97) rfl ?_
  intro b6
  refine zN ?_
  refine K.seq_st (K.store_all sz_97 rfl rfl rfl rfl (K.rp0)) rfl ?_
  refine zN ?_
  refine sn ?_
  refine K.seq ?_
  refine sr ?_
  refine K.nil_row (e := 3) (size := 1) ?_
  refine qm ?_
  refine qp (K.len_sl sl_22 rfl) ?_
  refine qm ?_
  refine sn ?_
  refine K.block ?_
  refine K.loopW [28] [7, 8, 9, 29, 30, 31, 32, 33, 34, 35, 36, 37, 38, 39, 40, 41, 42, 43, 44, 45, 46, 47, 48, 49, 50, 51, 52, 53] (fun vi L => ∃ (i : Nat) (QL : Option Addr) (cL : Nat), vi = [.int .i64 (i : Int)] ∧ L = [K.row (.slice QL (levU r i).length cL) 3 1 (levU r i).length ((levU r i).flatMap K.eI), K.blk b6 97 [.pointer (some ⟨q, 0, none⟩), .slice QL (levU r i).length cL, .map none, .slice none 0 0, .int .i64 ((mthS r : Nat) : Int)], K.blk q 79 (.slice A r.length c :: dcell (drT r))] ∧ i ≤ r.length) (fun vi => r.length - (intOf (K.nth vi 0)).toNat) ?_ ?_
  · exact ⟨0, none, 0, rfl, rfl, Nat.zero_le _⟩
  intro vi vr L hJ
  obtain ⟨i, QL, cL, rfl, rfl, hin⟩ := hJ
  try dsimp only [setd, setn, ev, nth, over, cl, eI, eP, eT, eR, setM, setF, List.map, List.append, List.drop, List.take]
  refine sr ?_
  refine qp (K.lss rfl rfl) ?_
  refine sn ?_
  refine K.seq ?_
  refine K.cond rfl (fun ht29 => ?_) (fun ht29 => ?_)
  · try replace ht29 := of_decide_eq_true ht29
    have hi : i < r.length := by omega
    have hpi := g.p i hi
    have hdr := riv_at (f := drT r) (S := .slice A r.length c) (i := i) (k := mthS r) (by omega) (by omega)
    rw [drT_in hi hmt.1, drp_mth g hi] at hdr
    have hdl := DM_le g hi
    refine K.skip ?_
    refine K.norm_then ?_
    refine K.seq ?_
    refine K.block ?_
    refine sr ?_
    refine qm ?_
    refine K.seq_ix (M := []) _ hR.sl sl_22 rfl rfl rfl (by omega) rfl ?_
    intro p31 hp31
    refine zN ?_
    refine K.seq_sil (K.loadA_p ag_44 rfl (hp31.any) rfl) rfl ?_
    refine zN ?_
    refine K.seq_new (K.alloc zr_44) rfl ?_
    intro b8
    refine zN ?_
    refine qa ?_
    refine K.seq_st (K.store_all sz_44 rfl rfl rfl rfl (K.rp0)) rfl ?_
    refine zN ?_
    refine sn ?_
    refine K.seq ?_
    refine K.draw_L [] Tryd_mixed ?_
    refine K.d_pure 0 rfl (K.move) (by kernel_rfl) rfl ?_
    refine zn ?_
    refine K.d_pure 1 rfl (K.move) (by kernel_rfl) rfl ?_
    refine zn ?_
    refine K.d_pure 2 rfl (K.fieldAddr_lit fo_97_4 rfl) (by kernel_rfl) rfl ?_
    refine zn ?_
    refine K.d_mem 3 rfl (K.load1_own one_3 rfl (K.m2) rfl) (fun _ h => h) (by kernel_rfl) (by kernel_rfl) rfl ?_
    refine zN ?_
    refine K.d_pure 4 rfl (K.nilCheck rfl) (by kernel_rfl) rfl ?_
    refine zn ?_
    refine K.d_pure 5 rfl (K.fieldAddr_lit fo_79_1 rfl) (by kernel_rfl) rfl ?_
    refine zn ?_
    refine K.d_pure 6 rfl (K.indexAddr_ar ar_77 rfl rfl (by omega) (by omega)) (by kernel_rfl) rfl ?_
    refine zN ?_
    refine K.d_pure 7 rfl (K.indexAddr_ar ar_76 rfl rfl (by omega) (by omega)) (by kernel_rfl) rfl ?_
    refine zN ?_
    refine K.d_mem 8 rfl (K.load_at one_3 rfl (K.PtrL.own' ((K.m3))) hdr) (fun _ h => h) (by kernel_rfl) (by kernel_rfl) rfl ?_
    refine zN ?_
    refine K.d_pure 9 rfl (K.assign) (by kernel_rfl) rfl ?_
    refine zn ?_
    refine K.d_done (by kernel_rfl) ?_
    refine K.norm_then ?_
    refine K.region_lit ?_
    refine qp (K.fieldAddr_lit fo_97_1 rfl) ?_
    refine K.seq_sil (K.load1_own one_26 rfl (K.m2) rfl) rfl ?_
    refine zN ?_
    refine qp (K.fieldAddr_lit fo_44_3 rfl) ?_
    refine K.seq_sil (K.load1_own one_3 rfl (K.m0) rfl) rfl ?_
    refine zN ?_
    refine qm ?_
    refine qp (K.sub_i64 rfl rfl (by omega)) ?_
    refine qm ?_
    refine qp (K.sub_i64 rfl rfl (by omega)) ?_
    refine K.seq_new (K.buildSlice (bs3 _ _ _)) rfl ?_
    intro b50
    refine zN ?_
    refine K.seq_upd (K.append el_26 rfl rfl (K.PtrL.own' (K.m0)) rfl rfl (by decide) (by rw [levU_len]; omega) (by rw [levU_len]; omega) (fun _ _ => K.rp2)) rfl ?_
    rintro ⟨g51, c51⟩ _
    refine zN ?_
    refine qp (K.fieldAddr_lit fo_97_1 rfl) ?_
    refine K.seq_st (K.store sz_26 rfl rfl rfl rfl (K.rp3)) rfl ?_
    refine zN ?_
    refine K.seq_nil ?_
    refine K.norm_block ?_
    refine K.norm_then ?_
    refine K.region_lit ?_
    refine qp (K.add_i64 rfl rfl (by omega)) ?_
    refine qm ?_
    refine K.seq_nil ?_
    have el : (levU r (i + 1)).length = (levU r i).length + 3 := by rw [levU, List.length_append]; rfl
    have ef : (levU r (i + 1)).flatMap K.eI = (levU r i).flatMap K.eI ++ [.int .i64 ((r.getD i default).ht - DM r i), .int .i64 (9000 - DM r i), .int .i64 0] := by rw [levU, List.flatMap_append]; rfl
    exact K.round_endW (L'' := [K.row (.slice (some ⟨g51, 0, none⟩) ((levU r i).length + 3) c51) 3 1 ((levU r i).length + 3) ((levU r i).flatMap K.eI ++ [.int .i64 ((r.getD i default).ht - DM r i), .int .i64 (9000 - DM r i), .int .i64 0]), K.blk b6 97 [.pointer (some ⟨q, 0, none⟩), .slice (some ⟨g51, 0, none⟩) ((levU r i).length + 3) c51, .map none, .slice none 0 0, .int .i64 ((mthS r : Nat) : Int)], K.blk q 79 (.slice A r.length c :: dcell (drT r))]) [.int .i64 ((i : Int) + 1)] ⟨i + 1, some ⟨g51, 0, none⟩, c51, rfl, by rw [el, ef], by omega⟩ (by simp [K.nth, intOf]; omega) (List.Sublist.cons _ (List.Sublist.cons _ (List.Sublist.refl _))) (by kernel_rfl)
  try replace ht29 := of_decide_eq_false ht29
  refine K.exit ?_
  refine K.exit_then ?_
  refine K.exit_then ?_
  refine K.exit_here ?_
  refine K.norm_then ?_
  refine K.seq ?_
  have e0 : i = r.length := by omega
  subst e0
  refine K.use_row (A := QL) K.m0 (fun hqL => ?_)
  obtain ⟨gb, rfl⟩ : ∃ gb, QL = some ⟨gb, 0, none⟩ := by
    rcases hqL with h | h
    · rw [levU_len] at h; omega
    · exact h
  refine K.region_lit ?_
  refine qp (K.fieldAddr_lit fo_97_1 rfl) ?_
  refine K.seq_sil (K.load1_own one_26 rfl (K.m1) rfl) rfl ?_
  refine zN ?_
  refine K.seq_upd (K.callU_f cal_75 (fun w hw => c75 (T := [_, _]) hw rfl (by rw [levU_len]; omega))) rfl ?_
  rintro ⟨⟩ _
  refine zN ?_
  rw [hNL]
  refine zN ?_
  refine sn ?_
  refine sr ?_
  refine K.seq_pure (K.mkFunc) rfl ?_
  refine zN ?_
  refine qa ?_
  refine sn ?_
  refine sr ?_
  refine K.nil_row (e := 3) (size := 1) ?_
  refine K.permH (L' := [_, _, _, _]) (List.Perm.trans (List.perm_middle (l₁ := [_, _])) (List.Perm.cons _ (List.Perm.trans (List.perm_middle (l₁ := [_])) (List.Perm.cons _ (List.Perm.refl _))))) ?_
  refine qm ?_
  refine K.seq_upd (K.callU (first := []) (cap := [.pointer (some ⟨b6, 0, none⟩)]) rfl cal_76 (fun w hw => c76 (T := []) (lv := (levS r)) (fx := []) hR g hw rfl rfl rfl rfl (fun x hx => levS_mem g hx) (by omega) (Nat.zero_le _))) rfl ?_
  rintro bm1 _
  refine zN ?_
  refine qa ?_
  refine sn ?_
  refine K.seq ?_
  refine sr ?_
  refine qm ?_
  refine qp (K.len_sl sl_22 rfl) ?_
  refine qm ?_
  refine sn ?_
  refine K.block ?_
  refine K.loopW [3, 62] [11, 13, 63, 64, 65, 66, 67, 68, 69, 70, 71, 72, 73, 74, 75, 76, 77, 78, 79, 80, 81, 82, 83, 84, 85, 86, 87, 88, 89, 90, 91, 92, 93, 94, 95, 96, 97, 98, 99] (fun vi L => ∃ (i : Nat) (QH : Option Addr) (cH bx : Nat), vi = [.slice QH (hgtF r (chgS r) i).length cH, .int .i64 (i : Int)] ∧ L = [K.blk b6 97 [.pointer (some ⟨q, 0, none⟩), .slice (some ⟨gb, 0, none⟩) (levS r).length cL, .map (some bx), .slice QH (hgtF r (chgS r) i).length cH, .int .i64 ((mthS r : Nat) : Int)], K.row (.slice (some ⟨gb, 0, none⟩) (levS r).length cL) 3 1 (levS r).length ((levS r).flatMap K.eI), K.row (.slice QH (hgtF r (chgS r) i).length cH) 3 1 (hgtF r (chgS r) i).length ((hgtF r (chgS r) i).flatMap K.eI), K.blk q 79 (.slice A r.length c :: dcell (drT r))] ∧ i ≤ r.length) (fun vi => r.length - (intOf (K.nth vi 1)).toNat) ?_ ?_
  · exact ⟨0, none, 0, bm1, rfl, rfl, Nat.zero_le _⟩
  intro vi vr L hJ
  obtain ⟨i, QH, cH, bx, rfl, rfl, hin⟩ := hJ
  try dsimp only [setd, setn, ev, nth, over, cl, eI, eP, eT, eR, setM, setF, List.map, List.append, List.drop, List.take]
  refine sr ?_
  refine qp (K.lss rfl rfl) ?_
  refine sn ?_
  refine K.seq ?_
  refine K.cond rfl (fun ht63 => ?_) (fun ht63 => ?_)
  · try replace ht63 := of_decide_eq_true ht63
    have hi : i < r.length := by omega
    have hdr := riv_at (f := drT r) (S := .slice A r.length c) (i := i) (k := mthS r) (by omega) (by omega)
    rw [drT_in hi hmt.1, drp_mth g hi] at hdr
    have hdl := DM_le g hi
    refine K.skip ?_
    refine K.norm_then ?_
    refine K.seq ?_
    refine K.block ?_
    refine sr ?_
    refine qm ?_
    refine qa ?_
    refine sn ?_
    refine K.seq ?_
    refine sr ?_
    refine K.nil_row (e := 3) (size := 1) ?_
    refine K.permH (L' := [_, _, _, _, _]) (List.Perm.trans (List.perm_middle (l₁ := [_])) (List.Perm.cons _ (List.Perm.trans (List.perm_middle (l₁ := [_])) (List.Perm.cons _ (List.Perm.trans (List.perm_middle (l₁ := [_])) (List.Perm.cons _ (List.Perm.refl _))))))) ?_
    refine qp (K.fieldAddr_lit fo_97_1 rfl) ?_
    refine K.seq_sil (K.load1_own one_26 rfl (K.m0) rfl) rfl ?_
    refine zN ?_
    refine qp (K.len_sl sl_26 rfl) ?_
    refine qm ?_
    refine sn ?_
    refine K.block ?_
    refine K.loopW [68] [13, 69, 70, 71, 72, 73, 74, 75, 76, 77, 78, 79, 80, 81, 82, 83, 84, 85, 86, 87, 88, 89, 90, 91, 92, 93, 94, 95, 96] (fun vi L => ∃ (j : Nat) (QX : Option Addr) (cX nX : Nat) (xX : List Int) (FV : Value) (bmy : Nat), vi = [.int .i64 (j : Int)] ∧ L = [K.blk b6 97 [.pointer (some ⟨q, 0, none⟩), .slice (some ⟨gb, 0, none⟩) (levS r).length cL, .map (some bmy), FV, .int .i64 ((mthS r : Nat) : Int)], K.row (.slice (some ⟨gb, 0, none⟩) (levS r).length cL) 3 1 (levS r).length ((levS r).flatMap K.eI), K.row (.slice QH (hgtF r (chgS r) i).length cH) 3 1 (hgtF r (chgS r) i).length ((hgtF r (chgS r) i).flatMap K.eI), K.row (.slice QX nX cX) 3 1 nX (xX.flatMap K.eI), K.blk q 79 (.slice A r.length c :: dcell (drT r))] ∧ j ≤ (levS r).length ∧ (∀ k, k < j → askS r (levS r) (tryL r (chgS r) i k) ≠ (chgS r)) ∧ (0 < j → FV = .slice QX nX cX ∧ nX = i + 1 ∧ xX = (tryL r (chgS r) i (j - 1)))) (fun vi => (levS r).length - (intOf (K.nth vi 0)).toNat) ?_ ?_
    · exact ⟨0, none, 0, 0, [], .slice QH (hgtF r (chgS r) i).length cH, bx, rfl, rfl, Nat.zero_le _, fun k hk => absurd hk (Nat.not_lt_zero k), fun h => absurd h (Nat.lt_irrefl 0)⟩
    intro vi vr L hJ
    obtain ⟨j, QX, cX, nX, xX, FV, bmy, rfl, rfl, hjn, hall, hX⟩ := hJ
    try dsimp only [setd, setn, ev, nth, over, cl, eI, eP, eT, eR, setM, setF, List.map, List.append, List.drop, List.take]
    refine sr ?_
    refine qp (K.lss rfl rfl) ?_
    refine sn ?_
    refine K.seq ?_
    refine K.cond rfl (fun ht69 => ?_) (fun ht69 => ?_)
    · try replace ht69 := of_decide_eq_true ht69
      have hj : j < (levS r).length := by omega
      have hlj := levS_at g hj
      refine K.skip ?_
      refine K.norm_then ?_
      refine K.seq ?_
      refine K.block ?_
      refine K.seq ?_
      refine K.use_rowc (A := QH) K.m2 (fun hqH hcH => ?_)
      refine K.region_lit ?_
      refine K.seq_ix (M := [K.row (.slice (some ⟨gb, 0, none⟩) (levS r).length cL) 3 1 (levS r).length ((levS r).flatMap K.eI)]) _ (K.Sl.own (w0 := w) (t := 3) (c := cL) (e := K.eI) (.inr ⟨gb, rfl⟩) (fun _ => rfl)) sl_26 rfl rfl rfl (by omega) rfl ?_
      intro p70 hp70
      refine zN ?_
      refine K.seq_sil (K.load1 one_3 rfl (hp70.at1 (K.m1))) rfl ?_
      refine zN ?_
      refine qa ?_
      refine sn ?_
      refine K.seq ?_
      refine K.draw_L [20] Tryd_mixed ?_
      refine K.d_pure 0 rfl (K.move) (by kernel_rfl) rfl ?_
      refine zn ?_
      refine K.d_pure 1 rfl (K.move) (by kernel_rfl) rfl ?_
      refine zn ?_
      refine K.d_pure 2 rfl (K.len_sl sl_26 rfl) (by kernel_rfl) rfl ?_
      refine zn ?_
      refine K.d_pure 3 rfl (K.move) (by kernel_rfl) rfl ?_
      refine zn ?_
      refine K.d_pure 4 rfl (K.len_sl sl_26 rfl) (by kernel_rfl) rfl ?_
      refine zn ?_
      refine K.d_pure 5 rfl (K.slice_hm sl_26 rfl rfl rfl hcH) (by kernel_rfl) rfl ?_
      refine zN ?_
      refine K.d_pure 6 rfl (K.move) (by kernel_rfl) rfl ?_
      refine zn ?_
      refine K.d_pure 7 rfl (K.move) (by kernel_rfl) rfl ?_
      refine zn ?_
      refine K.d_pure 8 rfl (K.move) (by kernel_rfl) rfl ?_
      refine zn ?_
      refine K.d_pure 9 rfl (K.fieldAddr_lit fo_97_4 rfl) (by kernel_rfl) rfl ?_
      refine zn ?_
      refine K.d_mem 10 rfl (K.load1_own one_3 rfl (K.m0) rfl) (fun _ h => h) (by kernel_rfl) (by kernel_rfl) rfl ?_
      refine zN ?_
      refine K.d_pure 11 rfl (K.nilCheck rfl) (by kernel_rfl) rfl ?_
      refine zn ?_
      refine K.d_pure 12 rfl (K.fieldAddr_lit fo_79_1 rfl) (by kernel_rfl) rfl ?_
      refine zn ?_
      refine K.d_pure 13 rfl (K.indexAddr_ar ar_77 rfl rfl (by omega) (by omega)) (by kernel_rfl) rfl ?_
      refine zN ?_
      refine K.d_pure 14 rfl (K.indexAddr_ar ar_76 rfl rfl (by omega) (by omega)) (by kernel_rfl) rfl ?_
      refine zN ?_
      refine K.d_mem 15 rfl (K.load_at one_3 rfl (K.PtrL.own' ((K.m4))) hdr) (fun _ h => h) (by kernel_rfl) (by kernel_rfl) rfl ?_
      refine zN ?_
      refine K.d_pure 16 rfl (K.add_i64 rfl rfl (by omega)) (by kernel_rfl) rfl ?_
      refine zn ?_
      refine K.d_new 17 rfl (K.buildSlice (bs1 _)) (fun _ h => h) (by kernel_rfl) rfl ?_
      intro b89
      refine zN ?_
      refine K.d_loud 18 rfl (K.appendN el_26 rfl rfl (K.Sl.own (w0 := w) (t := 3) (c := cH) (e := K.eI) hqH (fun _ => rfl)) (fun _ h => by simp only [List.mem_singleton] at h; subst h; exact (K.m3)) hqH rfl (fun _ => rfl) (K.PtrL.own' (K.m0)) rfl (by decide) (by rw [hgt_len]; omega) (by rw [hgt_len]; omega)) (fun _ h => K.tl h) (by kernel_rfl) rfl ?_
      rintro ⟨g90, c90⟩ _
      refine zN ?_
      refine K.d_pure 19 rfl (K.fieldAddr_lit fo_97_3 rfl) (by kernel_rfl) rfl ?_
      refine zn ?_
      refine K.d_last 20 rfl (K.store sz_26 rfl rfl rfl rfl (K.rp2)) rfl (by kernel_rfl) rfl ?_
      intro _ _
      refine zN ?_
      refine K.d_done (by kernel_rfl) ?_
      refine K.norm_then ?_
      refine K.seq ?_
      refine K.weak (List.Sublist.cons_cons _ (List.Sublist.cons _ (List.Sublist.cons_cons _ (List.Sublist.cons_cons _ (List.Sublist.cons_cons _ (List.Sublist.cons _ (List.Sublist.cons_cons _ (List.Sublist.slnil)))))))) ?_
      refine K.region_lit ?_
      refine K.permH (L' := [_, _, _, _, _]) (List.Perm.trans (List.perm_middle (l₁ := [_])) (List.Perm.cons _ (List.Perm.trans (List.perm_middle (l₁ := [_])) (List.Perm.cons _ (List.Perm.cons _ (List.Perm.trans (List.perm_middle (l₁ := [_])) (List.Perm.cons _ (List.Perm.refl _)))))))) ?_
      refine qm ?_
      refine K.seq_upd (K.callU (first := []) (cap := [.pointer (some ⟨b6, 0, none⟩)]) rfl cal_76 (fun w hw => c76 (T := [_]) (lv := (levS r)) (fx := (tryL r (chgS r) i j)) hR g hw rfl rfl (by rw [try_len, hgt_len]) (by unfold tryL; exact eI_snoc) (fun x hx => levS_mem g hx) (by omega) (by rw [try_len]; omega))) rfl ?_
      rintro bm2 _
      refine zN ?_
      refine qm ?_
      refine qp (K.eql rfl rfl) ?_
      refine sn ?_
      refine K.cond rfl (fun ht95 => ?_) (fun ht95 => ?_)
      · try replace ht95 := of_decide_eq_true ht95
        refine K.exit ?_
        refine K.exit_out rfl ?_
        refine K.exit_then ?_
        refine K.exit_then ?_
        refine K.exit_here ?_
        refine K.norm_then ?_
        refine K.region_lit ?_
        refine qp (K.fieldAddr_lit fo_97_3 rfl) ?_
        refine K.seq_sil (K.load1_own one_26 rfl (K.m0) rfl) rfl ?_
        refine zN ?_
        refine qa ?_
        refine K.seq_nil ?_
        refine K.norm_block ?_
        refine K.norm_then ?_
        refine K.region_lit ?_
        refine qp (K.add_i64 rfl rfl (by omega)) ?_
        refine qm ?_
        refine K.seq_nil ?_
        have ef : (hgtF r (chgS r) i).flatMap K.eI ++ [.int .i64 ((levS r).getD j default + DM r i)] = (tryL r (chgS r) i j).flatMap K.eI := by unfold tryL; exact eI_snoc
        have hh : (hgtF r (chgS r) (i + 1)) = (tryL r (chgS r) i j) := hgt_found hj hall ht95
        have hl : (hgtF r (chgS r) (i + 1)).length = (hgtF r (chgS r) i).length + 1 := by rw [hgt_len, hgt_len]
        exact K.round_endW (L'' := [K.blk b6 97 [.pointer (some ⟨q, 0, none⟩), .slice (some ⟨gb, 0, none⟩) (levS r).length cL, .map (some bm2), .slice (some ⟨g90, 0, none⟩) ((hgtF r (chgS r) i).length + 1) c90, .int .i64 ((mthS r : Nat) : Int)], K.row (.slice (some ⟨gb, 0, none⟩) (levS r).length cL) 3 1 (levS r).length ((levS r).flatMap K.eI), K.row (.slice (some ⟨g90, 0, none⟩) ((hgtF r (chgS r) i).length + 1) c90) 3 1 ((hgtF r (chgS r) i).length + 1) ((hgtF r (chgS r) i).flatMap K.eI ++ [.int .i64 ((levS r).getD j default + DM r i)]), K.blk q 79 (.slice A r.length c :: dcell (drT r))]) [.slice (some ⟨g90, 0, none⟩) ((hgtF r (chgS r) i).length + 1) c90, .int .i64 ((i : Int) + 1)] ⟨i + 1, some ⟨g90, 0, none⟩, c90, bm2, by rw [hl]; rfl, by rw [hl, hh, ← ef], by omega⟩ (by simp [K.nth, intOf]; omega) (List.Sublist.cons_cons _ (List.Sublist.cons_cons _ (List.Sublist.cons_cons _ (List.Sublist.cons_cons _ (List.nil_sublist _))))) (by kernel_rfl)
      try replace ht95 := of_decide_eq_false ht95
      refine K.skip ?_
      refine K.norm_block ?_
      refine K.norm_then ?_
      refine K.region_lit ?_
      refine K.permH (L' := [_, _, _, _, _]) (List.Perm.cons _ (List.Perm.cons _ (List.Perm.trans (List.perm_middle (l₁ := [_, _])) (List.Perm.cons _ (List.Perm.refl _))))) ?_
      refine qp (K.add_i64 rfl rfl (by omega)) ?_
      refine qm ?_
      refine K.seq_nil ?_
      have ef : (hgtF r (chgS r) i).flatMap K.eI ++ [.int .i64 ((levS r).getD j default + DM r i)] = (tryL r (chgS r) i j).flatMap K.eI := by unfold tryL; exact eI_snoc
      exact K.round_endW (L'' := [K.blk b6 97 [.pointer (some ⟨q, 0, none⟩), .slice (some ⟨gb, 0, none⟩) (levS r).length cL, .map (some bm2), .slice (some ⟨g90, 0, none⟩) ((hgtF r (chgS r) i).length + 1) c90, .int .i64 ((mthS r : Nat) : Int)], K.row (.slice (some ⟨gb, 0, none⟩) (levS r).length cL) 3 1 (levS r).length ((levS r).flatMap K.eI), K.row (.slice QH (hgtF r (chgS r) i).length cH) 3 1 (hgtF r (chgS r) i).length ((hgtF r (chgS r) i).flatMap K.eI), K.row (.slice (some ⟨g90, 0, none⟩) ((hgtF r (chgS r) i).length + 1) c90) 3 1 ((hgtF r (chgS r) i).length + 1) ((hgtF r (chgS r) i).flatMap K.eI ++ [.int .i64 ((levS r).getD j default + DM r i)]), K.blk q 79 (.slice A r.length c :: dcell (drT r))]) [.int .i64 ((j : Int) + 1)] ⟨j + 1, some ⟨g90, 0, none⟩, c90, (hgtF r (chgS r) i).length + 1, (tryL r (chgS r) i j), .slice (some ⟨g90, 0, none⟩) ((hgtF r (chgS r) i).length + 1) c90, bm2, rfl, by rw [← ef], by omega, K.lt_succ_case hall ht95, fun _ => ⟨rfl, by rw [hgt_len], rfl⟩⟩ (by simp [K.nth, intOf]; omega) (List.Sublist.refl _) (by kernel_rfl)
    try replace ht69 := of_decide_eq_false ht69
    refine K.exit ?_
    refine K.exit_then ?_
    refine K.exit_then ?_
    refine K.exit_here ?_
    refine K.norm_then ?_
    refine K.region_lit ?_
    refine qp (K.fieldAddr_lit fo_97_3 rfl) ?_
    refine K.seq_sil (K.load1_own one_26 rfl (K.m0) rfl) rfl ?_
    refine zN ?_
    refine qa ?_
    refine K.seq_nil ?_
    refine K.norm_block ?_
    refine K.norm_then ?_
    refine K.region_lit ?_
    refine qp (K.add_i64 rfl rfl (by omega)) ?_
    refine qm ?_
    refine K.seq_nil ?_
    have e0 : j = (levS r).length := by omega
    subst e0
    obtain ⟨rfl, rfl, rfl⟩ := hX (by omega)
    have hh : (hgtF r (chgS r) (i + 1)) = (tryL r (chgS r) i ((levS r).length - 1)) := hgt_last (by omega) hall
    have hl : (hgtF r (chgS r) (i + 1)).length = i + 1 := hgt_len _
    exact K.round_endW (L'' := [K.blk b6 97 [.pointer (some ⟨q, 0, none⟩), .slice (some ⟨gb, 0, none⟩) (levS r).length cL, .map (some bmy), .slice QX (i + 1) cX, .int .i64 ((mthS r : Nat) : Int)], K.row (.slice (some ⟨gb, 0, none⟩) (levS r).length cL) 3 1 (levS r).length ((levS r).flatMap K.eI), K.row (.slice QX (i + 1) cX) 3 1 (i + 1) ((tryL r (chgS r) i ((levS r).length - 1)).flatMap K.eI), K.blk q 79 (.slice A r.length c :: dcell (drT r))]) [.slice QX (i + 1) cX, .int .i64 ((i : Int) + 1)] ⟨i + 1, QX, cX, bmy, by rw [hl]; rfl, by rw [hl, hh], by omega⟩ (by simp [K.nth, intOf]; omega) (List.Sublist.cons_cons _ (List.Sublist.cons_cons _ (List.Sublist.cons _ (List.Sublist.refl _)))) (by kernel_rfl)
  try replace ht63 := of_decide_eq_false ht63
  refine K.exit ?_
  refine K.exit_then ?_
  refine K.exit_then ?_
  refine K.exit_here ?_
  refine K.norm_then ?_
  refine sr ?_
  iterate 2 refine qm ?_
  iterate 3 refine qa ?_
  refine sn ?_
  refine K.ret ?_
  refine K.end_ret (fun w _ => K.res_ttt rfl w) ?_
  have e0 : i = r.length := by omega
  subst e0
  have h1 : lstC r = chgS r := by unfold lstC; rw [if_neg (by omega)]
  have h2 : lstL r = (hgtF r (chgS r) r.length) := by unfold lstL; rw [if_neg (by omega)]
  rw [h1, h2, hc]
  exact reti (w0 := w) K.m2 rfl rfl rfl rfl rfl

theorem c32 {r : List RvT} {A : Option Addr} {c : Nat} {w : World} (hR : K.Rd w A 4 eR r) (hn : r.length ≤ 4611686018427387904) : Calls Tryd.prog 32 [.slice A r.length c].toArray w (RetI (lstC r) (lstL r) (chk r).2.2 w) := by
  by_cases hc : (chk r).2.2 = 0
  · exact g32 hR hn hc
  · exact e32 hR hn hc


end Go.Proofs.YtoemnobfnnjopaaDoor
end
section
set_option linter.unusedSimpArgs false
set_option linter.unusedVariables false
namespace Go.Proofs.YtoemnobfnnjopaaDoor
open Go.RowKit Go
open Go.K (setd setn ev nth over cl eI eP eT setM setF)
attribute [local irreducible] K.blk K.row
theorem blR0 : K.Bl Tryd.prog 44 [(0, .string ⟨#[115, 101, 97]⟩), (1, .int .i64 (-1))] (.agg #[.string ⟨#[115, 101, 97]⟩, .int .i64 (-1), .int .i64 0, .int .i64 0]) := fun w => by kernel_rfl
theorem blR1 : K.Bl Tryd.prog 44 [(0, .string ⟨#[102, 111, 114, 100]⟩), (1, .int .i64 0), (2, .int .i64 5), (3, .int .i64 40)] (.agg #[.string ⟨#[102, 111, 114, 100]⟩, .int .i64 0, .int .i64 5, .int .i64 40]) := fun w => by kernel_rfl
theorem blR2 : K.Bl Tryd.prog 44 [(0, .string ⟨#[109, 105, 108, 108]⟩), (1, .int .i64 1), (2, .int .i64 10), (3, .int .i64 45)] (.agg #[.string ⟨#[109, 105, 108, 108]⟩, .int .i64 1, .int .i64 10, .int .i64 45]) := fun w => by kernel_rfl
theorem blR3 : K.Bl Tryd.prog 44 [(0, .string ⟨#[115, 112, 114, 105, 110, 103]⟩), (1, .int .i64 2), (2, .int .i64 10), (3, .int .i64 70)] (.agg #[.string ⟨#[115, 112, 114, 105, 110, 103]⟩, .int .i64 2, .int .i64 10, .int .i64 70]) := fun w => by kernel_rfl
theorem blR4 (x : Int) : K.Bl Tryd.prog 44 [(0, .string ⟨#[119, 101, 108, 108]⟩), (1, .int .i64 1), (3, .int .i64 x)] (.agg #[.string ⟨#[119, 101, 108, 108]⟩, .int .i64 1, .int .i64 0, .int .i64 x]) := fun w => by kernel_rfl
theorem bsR (x : Int) : K.Bs Tryd.prog 22 5 [(0, .agg #[.string ⟨#[115, 101, 97]⟩, .int .i64 (-1), .int .i64 0, .int .i64 0]), (1, .agg #[.string ⟨#[102, 111, 114, 100]⟩, .int .i64 0, .int .i64 5, .int .i64 40]), (2, .agg #[.string ⟨#[109, 105, 108, 108]⟩, .int .i64 1, .int .i64 10, .int .i64 45]), (3, .agg #[.string ⟨#[115, 112, 114, 105, 110, 103]⟩, .int .i64 2, .int .i64 10, .int .i64 70]), (4, .agg #[.string ⟨#[119, 101, 108, 108]⟩, .int .i64 1, .int .i64 0, .int .i64 x])] 44 ((rivS x).flatMap eR) := fun w => by kernel_rfl
theorem blT0 : K.Bl Tryd.prog 44 [(0, .string ⟨#[97]⟩), (1, .int .i64 1)] (.agg #[.string ⟨#[97]⟩, .int .i64 1, .int .i64 0, .int .i64 0]) := fun w => by kernel_rfl
theorem blT1 : K.Bl Tryd.prog 44 [(0, .string ⟨#[98]⟩), (1, .int .i64 0)] (.agg #[.string ⟨#[98]⟩, .int .i64 0, .int .i64 0, .int .i64 0]) := fun w => by kernel_rfl
theorem bsT : K.Bs Tryd.prog 22 2 [(0, .agg #[.string ⟨#[97]⟩, .int .i64 1, .int .i64 0, .int .i64 0]), (1, .agg #[.string ⟨#[98]⟩, .int .i64 0, .int .i64 0, .int .i64 0])] 44 (twoS.flatMap eR) := fun w => by kernel_rfl
theorem bsI1 (a : Int) : K.Bs Tryd.prog 26 1 [(0, .int .i64 a)] 3 ([a].flatMap K.eI) := fun w => by kernel_rfl
theorem bsI2 (a b : Int) : K.Bs Tryd.prog 26 2 [(0, .int .i64 a), (1, .int .i64 b)] 3 ([a, b].flatMap K.eI) := fun w => by kernel_rfl
theorem bsI5 (a b c d e : Int) : K.Bs Tryd.prog 26 5 [(0, .int .i64 a), (1, .int .i64 b), (2, .int .i64 c), (3, .int .i64 d), (4, .int .i64 e)] 3 ([a, b, c, d, e].flatMap K.eI) := fun w => by kernel_rfl
theorem c18t {A B : Option Addr} {c d : Nat} {xs : List Int} {w : World} (hX : K.Rd w A 1 K.eI xs) (hY : K.Rd w B 1 K.eI xs) (hn : xs.length ≤ 1000000) : Calls Tryd.prog 18 [.slice A xs.length c, .slice B xs.length d].toArray w (K.Gives (.bool true) w) := by
  have h := c18 (c := c) (d := d) hX hY hn hn
  rwa [decide_eq_true rfl] at h

set_option maxRecDepth 100000 in
theorem c34 {x : Int} (w : World) :
    Calls Tryd.prog 34 [.int .i64 x].toArray w (K.Ret (fun _ : Nat => True) (fun b => .slice (some ⟨b, 0, none⟩) 5 5) (fun b => [K.blk b 44 ((rivS x).flatMap eR)]) w) := by
  refine K.enter (args := [.int .i64 x]) Tryd.func34 rfl (n := 9) rfl ?_
  simp only [List.replicate, List.cons_append, List.nil_append]
  refine sr ?_
  refine qa ?_
  refine sn ?_
  refine sr ?_
  refine K.seq_pure (K.build (blR0)) rfl ?_
  refine zN ?_
  refine K.seq_pure (K.build (blR1)) rfl ?_
  refine zN ?_
  refine K.seq_pure (K.build (blR2)) rfl ?_
  refine zN ?_
  refine K.seq_pure (K.build (blR3)) rfl ?_
  refine zN ?_
  refine qm ?_
  refine K.seq_pure (K.build (blR4 _)) rfl ?_
  refine zN ?_
  refine K.seq_new (K.buildSlice (bsR _)) rfl ?_
  intro b9
  refine zN ?_
  refine qa ?_
  refine sn ?_
  refine K.ret ?_
  refine K.end_ret (fun w _ => K.res_tmp rfl w) ?_
  exact K.rets_v b9 trivial rfl rfl (List.Sublist.refl _)

theorem ex16 {w : World} {b : Nat} (hR : K.Rd w (some ⟨b, 0, none⟩) 4 eR (rivS 38))  : Calls Tryd.prog 16 [.slice (some ⟨b, 0, none⟩) 5 5].toArray w (K.RetSE 3 1 K.eI [2, 4] 0 w) := by
  have h := c16 (r := rivS 38) (A := some ⟨b, 0, none⟩) (c := 5)  hR (by decide)
  rw [ex_bad, ex_chk] at h
  exact h


theorem ex19 {w : World} {b : Nat} (hR : K.Rd w (some ⟨b, 0, none⟩) 4 eR (rivS 38))  : Calls Tryd.prog 19 [.slice (some ⟨b, 0, none⟩) 5 5, .int .i64 3].toArray w (K.RetSE 3 1 K.eI [3, 2] 0 w) := by
  have h := c19 (r := rivS 38) (A := some ⟨b, 0, none⟩) (c := 5) (z := 3) hR (by decide)
  rw [ex_poured, ex_pou.1] at h
  exact h


theorem ex19b {w : World} {b : Nat} (hR : K.Rd w (some ⟨b, 0, none⟩) 4 eR (rivS 38))  : Calls Tryd.prog 19 [.slice (some ⟨b, 0, none⟩) 5 5, .int .i64 1].toArray w (K.RetSE 3 1 K.eI [1, 0] 0 w) := by
  have h := c19 (r := rivS 38) (A := some ⟨b, 0, none⟩) (c := 5) (z := 1) hR (by decide)
  rw [ex_poured2, ex_pou.2] at h
  exact h


theorem ex21 {w : World} {b : Nat} (hR : K.Rd w (some ⟨b, 0, none⟩) 4 eR (rivS 38))  : Calls Tryd.prog 21 [.slice (some ⟨b, 0, none⟩) 5 5].toArray w (K.RetSE 3 1 K.eI [0, 40, 50, 70, 40] 0 w) := by
  have h := c21 (r := rivS 38) (A := some ⟨b, 0, none⟩) (c := 5)  hR (by decide)
  rw [ex_fill.1, ex_fill.2] at h
  exact h


theorem ex23 {w : World} {b : Nat} (hR : K.Rd w (some ⟨b, 0, none⟩) 4 eR (rivS 38))  : Calls Tryd.prog 23 [.slice (some ⟨b, 0, none⟩) 5 5].toArray w (K.RetSE 3 1 K.eI [0, 35, 45, 70, 38] 0 w) := by
  have h := c23 (r := rivS 38) (A := some ⟨b, 0, none⟩) (c := 5)  hR (by decide)
  rw [ex_carve.1, ex_carve.2] at h
  exact h


theorem ex26 {w : World} {b : Nat} (hR : K.Rd w (some ⟨b, 0, none⟩) 4 eR (rivS 38)) (hT : Tab w) : Calls Tryd.prog 26 [.slice (some ⟨b, 0, none⟩) 5 5].toArray w (K.RetSE 3 1 K.eI [1] 0 w) := by
  have h := c26 (r := rivS 38) (A := some ⟨b, 0, none⟩) (c := 5)  hR (by decide) hT
  rw [ex_few, ex_chk] at h
  exact h


theorem ex26b {w : World} {b : Nat} (hR : K.Rd w (some ⟨b, 0, none⟩) 4 eR (rivS 20)) (hT : Tab w) : Calls Tryd.prog 26 [.slice (some ⟨b, 0, none⟩) 5 5].toArray w (K.RetSE 3 1 K.eI [1] 0 w) := by
  have h := c26 (r := rivS 20) (A := some ⟨b, 0, none⟩) (c := 5)  hR (by decide) hT
  rw [ex_few2, ex_chk2] at h
  exact h


theorem ex28 {w : World} {b : Nat} (hR : K.Rd w (some ⟨b, 0, none⟩) 4 eR (rivS 38)) (hT : Tab w) : Calls Tryd.prog 28 [.slice (some ⟨b, 0, none⟩) 5 5].toArray w (Ret2 [1] [1] 0 w) := by
  have h := c28 (r := rivS 38) (A := some ⟨b, 0, none⟩) (c := 5)  hR (by decide) hT
  rw [ex_must.1, ex_must.2, ex_chk] at h
  exact h


theorem ex30 {w : World} {b : Nat} (hR : K.Rd w (some ⟨b, 0, none⟩) 4 eR (rivS 38)) (hT : Tab w) : Calls Tryd.prog 30 [.slice (some ⟨b, 0, none⟩) 5 5].toArray w (K.RetSE 3 1 K.eI [0, 1, 1, 2, 3] 0 w) := by
  have h := c30 (r := rivS 38) (A := some ⟨b, 0, none⟩) (c := 5)  hR (by decide) hT
  rw [ex_prf, ex_chk] at h
  exact h


theorem ex30b {w : World} {b : Nat} (hR : K.Rd w (some ⟨b, 0, none⟩) 4 eR (rivS 20)) (hT : Tab w) : Calls Tryd.prog 30 [.slice (some ⟨b, 0, none⟩) 5 5].toArray w (K.RetSE 3 1 K.eI [0, 1, 1, 2, 3] 0 w) := by
  have h := c30 (r := rivS 20) (A := some ⟨b, 0, none⟩) (c := 5)  hR (by decide) hT
  rw [ex_prf2, ex_chk2] at h
  exact h


theorem ex32 {w : World} {b : Nat} (hR : K.Rd w (some ⟨b, 0, none⟩) 4 eR (rivS 38))  : Calls Tryd.prog 32 [.slice (some ⟨b, 0, none⟩) 5 5].toArray w (RetI 5 [0, 35, 45, 70, 38] 0 w) := by
  have h := c32 (r := rivS 38) (A := some ⟨b, 0, none⟩) (c := 5)  hR (by decide)
  rw [ex_lst.1, ex_lst.2, ex_chk] at h
  exact h


theorem ex32b {w : World} {b : Nat} (hR : K.Rd w (some ⟨b, 0, none⟩) 4 eR (rivS 20))  : Calls Tryd.prog 32 [.slice (some ⟨b, 0, none⟩) 5 5].toArray w (RetI 20 [0, 20, 45, 70, 20] 0 w) := by
  have h := c32 (r := rivS 20) (A := some ⟨b, 0, none⟩) (c := 5)  hR (by decide)
  rw [ex_lst2.1, ex_lst2.2, ex_chk2] at h
  exact h


set_option maxRecDepth 100000 in
set_option maxHeartbeats 2000000 in
theorem c25 {w : World} (hT : Tab w) :
    Calls Tryd.prog 25 [].toArray w (K.Gives (.bool true) w) := by
  refine K.enter (args := []) Tryd.func25 rfl (n := 157) rfl ?_
  simp only [List.replicate, List.cons_append, List.nil_append]
  refine sr ?_
  refine qa ?_
  refine sn ?_
  refine sr ?_
  refine K.seq_loud (K.call_f cal_34 (fun F w hF hw => c34 w)) rfl ?_
  rintro h1 _
  refine zN ?_
  refine qa ?_
  refine sn ?_
  refine sr ?_
  refine qm ?_
  refine K.seq_loud (K.call_f cal_16 (fun F w hF hw => ex16 (K.Rd.lit hw (hF _ (K.m0)) (fun _ => rfl) (by decide) rfl))) rfl ?_
  rintro ⟨A1, a1⟩ hq1
  refine zN ?_
  refine qm ?_
  refine qx ?_
  refine qx ?_
  iterate 2 refine qa ?_
  refine sn ?_
  refine sr ?_
  refine qm ?_
  refine K.seq_loud (K.call_f cal_19 (fun F w hF hw => ex19 (K.Rd.lit hw (hF _ (K.m1)) (fun _ => rfl) (by decide) rfl))) rfl ?_
  rintro ⟨A2, a2⟩ hq2
  refine zN ?_
  refine qm ?_
  refine qx ?_
  refine qx ?_
  iterate 2 refine qa ?_
  refine sn ?_
  refine sr ?_
  refine qm ?_
  refine K.seq_loud (K.call_f cal_21 (fun F w hF hw => ex21 (K.Rd.lit hw (hF _ (K.m2)) (fun _ => rfl) (by decide) rfl))) rfl ?_
  rintro ⟨A3, a3⟩ hq3
  refine zN ?_
  refine qm ?_
  refine qx ?_
  refine qx ?_
  iterate 2 refine qa ?_
  refine sn ?_
  refine sr ?_
  refine qm ?_
  refine K.seq_loud (K.call_f cal_23 (fun F w hF hw => ex23 (K.Rd.lit hw (hF _ (K.m3)) (fun _ => rfl) (by decide) rfl))) rfl ?_
  rintro ⟨A4, a4⟩ hq4
  refine zN ?_
  refine qm ?_
  refine qx ?_
  refine qx ?_
  iterate 2 refine qa ?_
  refine sn ?_
  refine sr ?_
  refine qm ?_
  refine K.seq_loud (K.call_f cal_26 (fun F w hF hw => ex26 (K.Rd.lit hw (hF _ (K.m4)) (fun _ => rfl) (by decide) rfl) (hT.pass hw))) rfl ?_
  rintro ⟨A5, a5⟩ hq5
  refine zN ?_
  refine qm ?_
  refine qx ?_
  refine qx ?_
  iterate 2 refine qa ?_
  refine sn ?_
  refine sr ?_
  refine qm ?_
  refine K.seq_loud (K.call_f cal_28 (fun F w hF hw => ex28 (K.Rd.lit hw (hF _ (K.m5)) (fun _ => rfl) (by decide) rfl) (hT.pass hw))) rfl ?_
  rintro ⟨⟨A6, a6⟩, ⟨A7, a7⟩⟩ ⟨hq6, hq7⟩
  refine zN ?_
  refine qm ?_
  refine qx ?_
  refine qx ?_
  refine qx ?_
  iterate 3 refine qa ?_
  refine sn ?_
  refine sr ?_
  refine qm ?_
  refine K.seq_loud (K.call_f cal_30 (fun F w hF hw => ex30 (K.Rd.lit hw (hF _ (K.m7)) (fun _ => rfl) (by decide) rfl) (hT.pass hw))) rfl ?_
  rintro ⟨A8, a8⟩ hq8
  refine zN ?_
  refine qm ?_
  refine qx ?_
  refine qx ?_
  iterate 2 refine qa ?_
  refine sn ?_
  refine sr ?_
  refine qm ?_
  refine K.seq_loud (K.call_f cal_32 (fun F w hF hw => ex32 (K.Rd.lit hw (hF _ (K.m8)) (fun _ => rfl) (by decide) rfl))) rfl ?_
  rintro ⟨A9, a9⟩ hq9
  refine zN ?_
  refine qm ?_
  refine qx ?_
  refine qx ?_
  refine qx ?_
  iterate 3 refine qa ?_
  refine sn ?_
  refine sr ?_
  refine K.seq_pure (K.build (blT0)) rfl ?_
  refine zN ?_
  refine K.seq_pure (K.build (blT1)) rfl ?_
  refine zN ?_
  refine K.seq_new (K.buildSlice (bsT)) rfl ?_
  intro b69
  refine zN ?_
  refine K.seq_call (K.call_g cal_14 (fun F w hF hw => (by have hg := c14 (r := twoS) (A := some ⟨b69, 0, none⟩) (c := 2) (K.Rd.lit hw (hF _ (K.m0)) (fun _ => rfl) (by decide) rfl) (by decide); rw [ex_two] at hg; exact hg))) rfl ?_
  refine zN ?_
  refine qm ?_
  refine qx ?_
  refine qx ?_
  refine qx ?_
  iterate 3 refine qa ?_
  refine sn ?_
  refine sr ?_
  refine qm ?_
  refine qp (K.Pure.eq (K.eql rfl rfl) (show _ = Value.bool true from congrArg Value.bool (by decide))) ?_
  iterate 2 refine qm ?_
  refine qp (K.Pure.eq (K.eql rfl rfl) (show _ = Value.bool true from congrArg Value.bool (by decide))) ?_
  refine qp (K.pick_t rfl) ?_
  iterate 2 refine qm ?_
  refine qp (K.Pure.eq (K.eql rfl rfl) (show _ = Value.bool true from congrArg Value.bool (by decide))) ?_
  refine qp (K.pick_t rfl) ?_
  iterate 2 refine qm ?_
  refine qp (K.Pure.eq (K.eql rfl rfl) (show _ = Value.bool true from congrArg Value.bool (by decide))) ?_
  refine qp (K.pick_t rfl) ?_
  iterate 2 refine qm ?_
  refine qp (K.Pure.eq (K.eql rfl rfl) (show _ = Value.bool true from congrArg Value.bool (by decide))) ?_
  refine qp (K.pick_t rfl) ?_
  iterate 2 refine qm ?_
  refine qp (K.Pure.eq (K.eql rfl rfl) (show _ = Value.bool true from congrArg Value.bool (by decide))) ?_
  refine qp (K.pick_t rfl) ?_
  iterate 2 refine qm ?_
  refine qp (K.Pure.eq (K.eql rfl rfl) (show _ = Value.bool true from congrArg Value.bool (by decide))) ?_
  refine qp (K.pick_t rfl) ?_
  iterate 2 refine qm ?_
  refine qp (K.Pure.eq (K.eql rfl rfl) (show _ = Value.bool true from congrArg Value.bool (by decide))) ?_
  refine qp (K.pick_t rfl) ?_
  iterate 2 refine qm ?_
  refine qp (K.Pure.eq (K.eql rfl rfl) (show _ = Value.bool true from congrArg Value.bool (by decide))) ?_
  refine qp (K.pick_t rfl) ?_
  iterate 2 refine qm ?_
  refine K.seq_new (K.buildSlice (bsI2 _ _)) rfl ?_
  intro b110
  refine zN ?_
  refine K.seq_call (K.call_g cal_18 (fun F w hF hw => c18t (xs := [2, 4]) (K.Rd.own (e := K.eI) hw (hF _ (K.m10)) hq1 (fun _ => rfl) (by decide)) (K.Rd.lit hw (hF _ (K.m0)) (fun _ => rfl) (by decide) rfl) (by decide))) rfl ?_
  refine zN ?_
  refine qp (K.pick_t rfl) ?_
  iterate 2 refine qm ?_
  refine K.seq_new (K.buildSlice (bsI2 _ _)) rfl ?_
  intro b115
  refine zN ?_
  refine K.seq_call (K.call_g cal_18 (fun F w hF hw => c18t (xs := [3, 2]) (K.Rd.own (e := K.eI) hw (hF _ (K.m10)) hq2 (fun _ => rfl) (by decide)) (K.Rd.lit hw (hF _ (K.m0)) (fun _ => rfl) (by decide) rfl) (by decide))) rfl ?_
  refine zN ?_
  refine qp (K.pick_t rfl) ?_
  iterate 2 refine qm ?_
  refine K.seq_new (K.buildSlice (bsI5 _ _ _ _ _)) rfl ?_
  intro b120
  refine zN ?_
  refine K.seq_call (K.call_g cal_18 (fun F w hF hw => c18t (xs := [0, 40, 50, 70, 40]) (K.Rd.own (e := K.eI) hw (hF _ (K.m10)) hq3 (fun _ => rfl) (by decide)) (K.Rd.lit hw (hF _ (K.m0)) (fun _ => rfl) (by decide) rfl) (by decide))) rfl ?_
  refine zN ?_
  refine qp (K.pick_t rfl) ?_
  iterate 2 refine qm ?_
  refine K.seq_new (K.buildSlice (bsI5 _ _ _ _ _)) rfl ?_
  intro b125
  refine zN ?_
  refine K.seq_call (K.call_g cal_18 (fun F w hF hw => c18t (xs := [0, 35, 45, 70, 38]) (K.Rd.own (e := K.eI) hw (hF _ (K.m10)) hq4 (fun _ => rfl) (by decide)) (K.Rd.lit hw (hF _ (K.m0)) (fun _ => rfl) (by decide) rfl) (by decide))) rfl ?_
  refine zN ?_
  refine qp (K.pick_t rfl) ?_
  iterate 2 refine qm ?_
  refine K.seq_new (K.buildSlice (bsI1 _)) rfl ?_
  intro b130
  refine zN ?_
  refine K.seq_call (K.call_g cal_18 (fun F w hF hw => c18t (xs := [1]) (K.Rd.own (e := K.eI) hw (hF _ (K.m10)) hq5 (fun _ => rfl) (by decide)) (K.Rd.lit hw (hF _ (K.m0)) (fun _ => rfl) (by decide) rfl) (by decide))) rfl ?_
  refine zN ?_
  refine qp (K.pick_t rfl) ?_
  iterate 2 refine qm ?_
  refine K.seq_new (K.buildSlice (bsI1 _)) rfl ?_
  intro b135
  refine zN ?_
  refine K.seq_call (K.call_g cal_18 (fun F w hF hw => c18t (xs := [1]) (K.Rd.own (e := K.eI) hw (hF _ (K.m10)) hq6 (fun _ => rfl) (by decide)) (K.Rd.lit hw (hF _ (K.m0)) (fun _ => rfl) (by decide) rfl) (by decide))) rfl ?_
  refine zN ?_
  refine qp (K.pick_t rfl) ?_
  iterate 2 refine qm ?_
  refine K.seq_new (K.buildSlice (bsI1 _)) rfl ?_
  intro b140
  refine zN ?_
  refine K.seq_call (K.call_g cal_18 (fun F w hF hw => c18t (xs := [1]) (K.Rd.own (e := K.eI) hw (hF _ (K.m10)) hq7 (fun _ => rfl) (by decide)) (K.Rd.lit hw (hF _ (K.m0)) (fun _ => rfl) (by decide) rfl) (by decide))) rfl ?_
  refine zN ?_
  refine qp (K.pick_t rfl) ?_
  iterate 2 refine qm ?_
  refine K.seq_new (K.buildSlice (bsI5 _ _ _ _ _)) rfl ?_
  intro b145
  refine zN ?_
  refine K.seq_call (K.call_g cal_18 (fun F w hF hw => c18t (xs := [0, 1, 1, 2, 3]) (K.Rd.own (e := K.eI) hw (hF _ (K.m10)) hq8 (fun _ => rfl) (by decide)) (K.Rd.lit hw (hF _ (K.m0)) (fun _ => rfl) (by decide) rfl) (by decide))) rfl ?_
  refine zN ?_
  refine qp (K.pick_t rfl) ?_
  iterate 2 refine qm ?_
  refine qp (K.Pure.eq (K.eql rfl rfl) (show _ = Value.bool true from congrArg Value.bool (by decide))) ?_
  refine qp (K.pick_t rfl) ?_
  iterate 2 refine qm ?_
  refine K.seq_new (K.buildSlice (bsI5 _ _ _ _ _)) rfl ?_
  intro b154
  refine zN ?_
  refine K.seq_call (K.call_g cal_18 (fun F w hF hw => c18t (xs := [0, 35, 45, 70, 38]) (K.Rd.own (e := K.eI) hw (hF _ (K.m10)) hq9 (fun _ => rfl) (by decide)) (K.Rd.lit hw (hF _ (K.m0)) (fun _ => rfl) (by decide) rfl) (by decide))) rfl ?_
  refine zN ?_
  refine qp (K.pick_t rfl) ?_
  refine qa ?_
  refine sn ?_
  refine K.ret ?_
  refine K.end_ret (fun w _ => K.res_tmp rfl w) ?_
  exact K.gives rfl

set_option maxRecDepth 100000 in
set_option maxHeartbeats 1000000 in
theorem c5 {w : World} (hT : Tab w) :
    Calls Tryd.prog 5 [].toArray w (K.Gives (.bool true) w) := by
  refine K.enter (args := []) Tryd.func5 rfl (n := 74) rfl ?_
  simp only [List.replicate, List.cons_append, List.nil_append]
  refine sr ?_
  refine qa ?_
  refine sn ?_
  refine sr ?_
  refine K.seq_loud (K.call_f cal_34 (fun F w hF hw => c34 w)) rfl ?_
  rintro h1 _
  refine zN ?_
  refine qa ?_
  refine sn ?_
  refine sr ?_
  refine K.seq_loud (K.call_f cal_34 (fun F w hF hw => c34 w)) rfl ?_
  rintro h2 _
  refine zN ?_
  refine K.seq_loud (K.call_f cal_19 (fun F w hF hw => ex19b (K.Rd.lit hw (hF _ (K.m0)) (fun _ => rfl) (by decide) rfl))) rfl ?_
  rintro ⟨A1, a1⟩ hq1
  refine zN ?_
  refine qm ?_
  refine qx ?_
  refine qx ?_
  iterate 2 refine qa ?_
  refine sn ?_
  refine sr ?_
  refine qm ?_
  refine K.seq_loud (K.call_f cal_26 (fun F w hF hw => ex26b (K.Rd.lit hw (hF _ (K.m2)) (fun _ => rfl) (by decide) rfl) (hT.pass hw))) rfl ?_
  rintro ⟨A2, a2⟩ hq2
  refine zN ?_
  refine qm ?_
  refine qx ?_
  refine qx ?_
  iterate 2 refine qa ?_
  refine sn ?_
  refine sr ?_
  refine qm ?_
  refine K.seq_loud (K.call_f cal_30 (fun F w hF hw => ex30b (K.Rd.lit hw (hF _ (K.m3)) (fun _ => rfl) (by decide) rfl) (hT.pass hw))) rfl ?_
  rintro ⟨A3, a3⟩ hq3
  refine zN ?_
  refine qm ?_
  refine qx ?_
  refine qx ?_
  iterate 2 refine qa ?_
  refine sn ?_
  refine sr ?_
  refine qm ?_
  refine K.seq_loud (K.call_f cal_32 (fun F w hF hw => ex32b (K.Rd.lit hw (hF _ (K.m4)) (fun _ => rfl) (by decide) rfl))) rfl ?_
  rintro ⟨A4, a4⟩ hq4
  refine zN ?_
  refine qm ?_
  refine qx ?_
  refine qx ?_
  refine qx ?_
  iterate 3 refine qa ?_
  refine sn ?_
  refine sr ?_
  refine qm ?_
  refine qp (K.Pure.eq (K.eql rfl rfl) (show _ = Value.bool true from congrArg Value.bool (by decide))) ?_
  iterate 2 refine qm ?_
  refine qp (K.Pure.eq (K.eql rfl rfl) (show _ = Value.bool true from congrArg Value.bool (by decide))) ?_
  refine qp (K.pick_t rfl) ?_
  iterate 2 refine qm ?_
  refine qp (K.Pure.eq (K.eql rfl rfl) (show _ = Value.bool true from congrArg Value.bool (by decide))) ?_
  refine qp (K.pick_t rfl) ?_
  iterate 2 refine qm ?_
  refine qp (K.Pure.eq (K.eql rfl rfl) (show _ = Value.bool true from congrArg Value.bool (by decide))) ?_
  refine qp (K.pick_t rfl) ?_
  iterate 2 refine qm ?_
  refine K.seq_new (K.buildSlice (bsI2 _ _)) rfl ?_
  intro b49
  refine zN ?_
  refine K.seq_call (K.call_g cal_18 (fun F w hF hw => c18t (xs := [1, 0]) (K.Rd.own (e := K.eI) hw (hF _ (K.m4)) hq1 (fun _ => rfl) (by decide)) (K.Rd.lit hw (hF _ (K.m0)) (fun _ => rfl) (by decide) rfl) (by decide))) rfl ?_
  refine zN ?_
  refine qp (K.pick_t rfl) ?_
  iterate 2 refine qm ?_
  refine K.seq_new (K.buildSlice (bsI1 _)) rfl ?_
  intro b54
  refine zN ?_
  refine K.seq_call (K.call_g cal_18 (fun F w hF hw => c18t (xs := [1]) (K.Rd.own (e := K.eI) hw (hF _ (K.m4)) hq2 (fun _ => rfl) (by decide)) (K.Rd.lit hw (hF _ (K.m0)) (fun _ => rfl) (by decide) rfl) (by decide))) rfl ?_
  refine zN ?_
  refine qp (K.pick_t rfl) ?_
  iterate 2 refine qm ?_
  refine K.seq_new (K.buildSlice (bsI5 _ _ _ _ _)) rfl ?_
  intro b59
  refine zN ?_
  refine K.seq_call (K.call_g cal_18 (fun F w hF hw => c18t (xs := [0, 1, 1, 2, 3]) (K.Rd.own (e := K.eI) hw (hF _ (K.m4)) hq3 (fun _ => rfl) (by decide)) (K.Rd.lit hw (hF _ (K.m0)) (fun _ => rfl) (by decide) rfl) (by decide))) rfl ?_
  refine zN ?_
  refine qp (K.pick_t rfl) ?_
  iterate 2 refine qm ?_
  refine qp (K.Pure.eq (K.eql rfl rfl) (show _ = Value.bool true from congrArg Value.bool (by decide))) ?_
  refine qp (K.pick_t rfl) ?_
  iterate 2 refine qm ?_
  refine K.seq_new (K.buildSlice (bsI5 _ _ _ _ _)) rfl ?_
  intro b68
  refine zN ?_
  refine K.seq_call (K.call_g cal_18 (fun F w hF hw => c18t (xs := [0, 20, 45, 70, 20]) (K.Rd.own (e := K.eI) hw (hF _ (K.m4)) hq4 (fun _ => rfl) (by decide)) (K.Rd.lit hw (hF _ (K.m0)) (fun _ => rfl) (by decide) rfl) (by decide))) rfl ?_
  refine zN ?_
  refine qp (K.pick_t rfl) ?_
  refine qm ?_
  refine K.seq_call (K.call_g cal_25 (fun F w hF hw => c25 (hT.pass hw))) rfl ?_
  refine zN ?_
  refine qp (K.pick_t rfl) ?_
  refine qa ?_
  refine sn ?_
  refine K.ret ?_
  refine K.end_ret (fun w _ => K.res_tmp rfl w) ?_
  exact K.gives rfl

end Go.Proofs.YtoemnobfnnjopaaDoor
end
section
set_option linter.unusedSimpArgs false
set_option linter.unusedVariables false
namespace Go.Proofs.YtoemnobfnnjopaaDoor
open Go.RowKit Go
open Go.K (setd setn ev nth over cl eI eP eT setM setF)
attribute [local irreducible] K.blk K.row
theorem rv_fresh {r : List RvT} {i : Nat} : rvE r i = if freshE (r.getD i default).nm ((r.take i).map (·.nm)) = 0 then posE r.length i (r.getD i default) else freshE (r.getD i default).nm ((r.take i).map (·.nm)) := by
  have e : (((r.take i).map (·.nm)).any fun q => nmEq q (r.getD i default).nm) = (r.take i).any fun q => nmEq q.nm (r.getD i default).nm := by rw [List.any_map]; rfl
  unfold rvE freshE
  rw [e]
  split
  · simp
  · split
    · simp
    · simp

set_option maxRecDepth 100000 in
set_option maxHeartbeats 1000000 in
theorem c15 {r : List RvT} {A : Option Addr} {c : Nat} {w : World} (hR : K.Rd w A 4 eR r) (hn : r.length ≤ 4611686018427387904) :
    Calls Tryd.prog 15 [.slice A r.length c].toArray w (K.Gives (K.tup3 (chk r)) w) := by
  refine K.enter (args := [.slice A r.length c]) Tryd.func15 rfl (n := 98) rfl ?_
  simp only [List.replicate, List.cons_append, List.nil_append]
  refine sr ?_
  iterate 3 refine qa ?_
  refine sn ?_
  refine K.seq ?_
  refine sr ?_
  refine qm ?_
  refine qp (K.len_sl sl_22 rfl) ?_
  refine K.seq_call (K.call_g cal_49 (fun F w hF hw => c49 w)) rfl ?_
  refine zN ?_
  first | refine K.seq_pure (K.not_d rfl) rfl ?_ | refine K.seq_pure (K.not_ rfl) rfl ?_
  refine zN ?_
  refine sn ?_
  refine K.cond rfl (fun ht16 => ?_) (fun ht16 => ?_)
  · try replace ht16 := of_decide_eq_true ht16
    refine sr ?_
    iterate 3 refine qa ?_
    refine sn ?_
    refine K.ret ?_
    refine K.ret_then ?_
    refine K.end_ret (fun w _ => K.res_ttt rfl w) ?_
    exact K.gives (by rw [chk_1 (by omega)]; rfl)
  try replace ht16 := of_decide_eq_false ht16
  refine K.skip ?_
  refine K.norm_then ?_
  refine sr ?_
  refine qa ?_
  refine sn ?_
  refine K.seq ?_
  refine sr ?_
  refine K.nil_row (e := 9) (size := 1) ?_
  refine qa ?_
  refine sn ?_
  refine K.block ?_
  refine K.loopW [5, 6] [2, 3, 4, 7, 17, 18, 19, 20, 21, 22, 23, 24, 25, 26, 27, 28, 29, 30, 31, 32, 33, 34, 35, 36, 37, 38, 39, 40, 41, 42, 43, 44, 45, 46] (fun vi L => ∃ (k : Nat) (Q1 : Option Addr) (q1 : Nat), vi = [.slice Q1 ((r.take k).map (·.nm)).length q1, .int .i64 (k : Int)] ∧ L = [K.row (.slice Q1 ((r.take k).map (·.nm)).length q1) 9 1 ((r.take k).map (·.nm)).length (((r.take k).map (·.nm)).flatMap eB)] ∧ k ≤ r.length ∧ ∀ j, j < k → rvE r j = 0) (fun vi => r.length - (intOf (K.nth vi 1)).toNat) ?_ ?_
  · exact ⟨0, none, 0, rfl, rfl, Nat.zero_le _, fun j hj => absurd hj (Nat.not_lt_zero j)⟩
  intro vi vr L hJ
  obtain ⟨k, Q1, q1, rfl, rfl, hkn, hall⟩ := hJ
  have hnl : ((r.take k).map (·.nm)).length = k := by rw [List.length_map, List.length_take]; omega
  have hnl2 : ((r.take k).map (·.nm)).length ≤ 4611686018427387904 := by rw [hnl]; omega
  try dsimp only [setd, setn, ev, nth, over, cl, eI, eP, eT, eR, setM, setF, List.map, List.append, List.drop, List.take]
  refine K.seq ?_
  refine sr ?_
  iterate 2 refine qm ?_
  refine qp (K.len_sl sl_22 rfl) ?_
  refine qp (K.lss rfl rfl) ?_
  refine sn ?_
  refine K.cond rfl (fun ht20 => ?_) (fun ht20 => ?_)
  · try replace ht20 := of_decide_eq_true ht20
    have hk : k < r.length := by omega
    refine K.skip ?_
    refine K.norm_then ?_
    refine K.seq ?_
    refine K.block ?_
    refine K.seq ?_
    refine K.use_row K.m0 (fun hQ => ?_)
    refine K.region_lit ?_
    iterate 2 refine qm ?_
    refine K.seq_ix (M := []) _ hR.sl sl_22 rfl rfl rfl (by omega) rfl ?_
    intro p25 hp25
    refine zN ?_
    refine qp (K.fieldAddr fo_44_0 rfl) ?_
    refine K.seq_sil (K.load1 one_9 rfl ((K.PtrL.fld hp25 (k := 0)).any)) rfl ?_
    refine zN ?_
    refine qm ?_
    refine K.seq_call (K.call_g cal_50 (fun F w hF hw => (by have hh := K.Rd.own hw (hF _ (K.m0)) hQ (e := eB) (fun _ => rfl) (by decide); exact c50 (l := ((r.take k).map (·.nm))) hh hnl2))) rfl ?_
    refine zN ?_
    refine qa ?_
    refine sn ?_
    refine sr ?_
    iterate 3 refine qm ?_
    refine K.seq_ix (M := []) _ hR.sl sl_22 rfl rfl rfl (by omega) rfl ?_
    intro p33 hp33
    refine zN ?_
    refine qp (K.fieldAddr fo_44_0 rfl) ?_
    refine K.seq_sil (K.load1 one_9 rfl ((K.PtrL.fld hp33 (k := 0)).any)) rfl ?_
    refine zN ?_
    refine K.seq_new (K.buildSlice (bs62 _)) rfl ?_
    intro b36
    refine zN ?_
    refine K.seq_upd (K.append el_62 rfl rfl (K.PtrL.own' (K.m0)) rfl rfl (by decide) (by omega) (by omega) (fun _ _ => K.rp1)) rfl ?_
    rintro ⟨g37, c37⟩ _
    refine zN ?_
    refine qa ?_
    refine sn ?_
    refine K.seq ?_
    refine sr ?_
    refine qm ?_
    refine qp (K.eql rfl rfl) ?_
    refine sn ?_
    refine K.cond rfl (fun ht39 => ?_) (fun ht39 => ?_)
    · try replace ht39 := of_decide_eq_true ht39
      refine K.region_lit ?_
      iterate 2 refine qm ?_
      refine K.seq_call (K.call_g cal_51 (fun F w hF hw => c51 (hR.pass hw) hn hk)) rfl ?_
      refine zN ?_
      refine qa ?_
      refine sn ?_
      refine sr ?_
      refine qm ?_
      refine qp (K.neq rfl rfl) ?_
      refine sn ?_
      refine K.cond rfl (fun ht44 => ?_) (fun ht44 => ?_)
      · try replace ht44 := of_decide_eq_true ht44
        refine sr ?_
        iterate 2 refine qm ?_
        iterate 3 refine qa ?_
        refine sn ?_
        refine K.ret ?_
        refine K.ret_block ?_
        refine K.ret_then ?_
        refine K.ret_then ?_
        refine K.ret_block ?_
        refine K.ret_then ?_
        refine K.end_ret (fun w _ => K.res_ttt rfl w) ?_
        have hne : rvE r k ≠ 0 := by rw [rv_fresh, if_pos ht39]; exact ht44
        exact K.gives (by rw [chk_at (by omega) hk hall hne, rv_fresh, if_pos ht39]; rfl)
      try replace ht44 := of_decide_eq_false ht44
      refine K.skip ?_
      refine K.norm_block ?_
      refine K.norm_then ?_
      refine K.region_lit ?_
      refine qm ?_
      refine qp (K.add_i64 rfl rfl (by omega)) ?_
      refine qa ?_
      refine K.seq_nil ?_
      have hrv : rvE r k = 0 := by
        rw [rv_fresh]
        first
          | (rw [if_pos ht39]; omega)
          | (rw [if_neg ht39]; omega)
      exact K.round_endW (L'' := [K.row (.slice (some ⟨g37, 0, none⟩) (((r.take k).map (·.nm)).length + 1) c37) 9 1 (((r.take k).map (·.nm)).length + 1) (((r.take k).map (·.nm)).flatMap eB ++ [.string (r.getD k default).nm])]) [.slice (some ⟨g37, 0, none⟩) (((r.take k).map (·.nm)).length + 1) c37, .int .i64 ((k : Int) + 1)] ⟨k + 1, some ⟨g37, 0, none⟩, c37, by rw [take_succ_map _ hk, List.length_append]; rfl, by rw [take_succ_map _ hk, List.length_append, List.flatMap_append]; rfl, by omega, K.lt_succ_case hall hrv⟩ (by simp [K.nth, intOf]; omega) (List.Sublist.cons _ (List.Sublist.refl _)) (by kernel_rfl)
    try replace ht39 := of_decide_eq_false ht39
    refine K.skip ?_
    refine K.norm_then ?_
    refine sr ?_
    refine qm ?_
    refine qp (K.neq rfl rfl) ?_
    refine sn ?_
    refine K.cond rfl (fun ht44 => ?_) (fun ht44 => ?_)
    · try replace ht44 := of_decide_eq_true ht44
      refine sr ?_
      iterate 2 refine qm ?_
      iterate 3 refine qa ?_
      refine sn ?_
      refine K.ret ?_
      refine K.ret_block ?_
      refine K.ret_then ?_
      refine K.ret_then ?_
      refine K.ret_block ?_
      refine K.ret_then ?_
      refine K.end_ret (fun w _ => K.res_ttt rfl w) ?_
      have hne : rvE r k ≠ 0 := by rw [rv_fresh, if_neg ht39]; exact ht44
      exact K.gives (by rw [chk_at (by omega) hk hall hne, rv_fresh, if_neg ht39]; rfl)
    try replace ht44 := of_decide_eq_false ht44
    refine K.skip ?_
    refine K.norm_block ?_
    refine K.norm_then ?_
    refine K.region_lit ?_
    refine qm ?_
    refine qp (K.add_i64 rfl rfl (by omega)) ?_
    refine qa ?_
    refine K.seq_nil ?_
    have hrv : rvE r k = 0 := by
      rw [rv_fresh]
      first
        | (rw [if_pos ht39]; omega)
        | (rw [if_neg ht39]; omega)
    exact K.round_endW (L'' := [K.row (.slice (some ⟨g37, 0, none⟩) (((r.take k).map (·.nm)).length + 1) c37) 9 1 (((r.take k).map (·.nm)).length + 1) (((r.take k).map (·.nm)).flatMap eB ++ [.string (r.getD k default).nm])]) [.slice (some ⟨g37, 0, none⟩) (((r.take k).map (·.nm)).length + 1) c37, .int .i64 ((k : Int) + 1)] ⟨k + 1, some ⟨g37, 0, none⟩, c37, by rw [take_succ_map _ hk, List.length_append]; rfl, by rw [take_succ_map _ hk, List.length_append, List.flatMap_append]; rfl, by omega, K.lt_succ_case hall hrv⟩ (by simp [K.nth, intOf]; omega) (List.Sublist.cons _ (List.Sublist.refl _)) (by kernel_rfl)
  try replace ht20 := of_decide_eq_false ht20
  refine K.exit ?_
  refine K.exit_then ?_
  refine K.exit_then ?_
  refine K.exit_here ?_
  refine K.norm_then ?_
  refine K.seq ?_
  have hln : 1 ≤ r.length ∧ r.length ≤ 9 := by omega
  have hf0 : (K.fst (rvE r) (List.range r.length)).2 = 0 := fst_0 (fun j hj => hall j (by omega))
  have hdn : ∀ i, i < r.length → -1 ≤ (r.getD i default).dn ∧ (r.getD i default).dn ≤ (r.length : Int) - 1 := fun i hi => (pos_ok (rv_ok (hall i (by omega))).2.2).2.1
  refine K.region_lit ?_
  refine qa ?_
  refine sn ?_
  refine K.seq ?_
  refine sr ?_
  refine qa ?_
  refine sn ?_
  refine K.block ?_
  refine K.loopW [8, 9] [2, 3, 4, 47, 48, 49, 50, 51, 52, 53, 54, 55, 56, 57, 58, 59, 60, 61, 62, 63] (fun vi L => ∃ j : Nat, vi = [.int .i64 ((mouS r j).length : Int), .int .i64 ((j : Nat) : Int)] ∧ L = [K.row (.slice Q1 ((r.take k).map (·.nm)).length q1) 9 1 ((r.take k).map (·.nm)).length (((r.take k).map (·.nm)).flatMap eB)] ∧ j ≤ r.length ∧ (mouS r j).length ≤ 1) (fun vi => r.length - (intOf (K.nth vi 1)).toNat) ?_ ?_
  · exact ⟨0, rfl, rfl, Nat.zero_le _, Nat.zero_le _⟩
  intro vi vr L hJ
  obtain ⟨j, rfl, rfl, hjn, hm1⟩ := hJ
  try dsimp only [setd, setn, ev, nth, over, cl, eI, eP, eT, eR, setM, setF, List.map, List.append, List.drop, List.take]
  refine K.seq ?_
  refine sr ?_
  iterate 2 refine qm ?_
  refine qp (K.len_sl sl_22 rfl) ?_
  refine qp (K.lss rfl rfl) ?_
  refine sn ?_
  refine K.cond rfl (fun ht50 => ?_) (fun ht50 => ?_)
  · try replace ht50 := of_decide_eq_true ht50
    have hj : j < r.length := by omega
    have hml := @mou_len r j
    refine K.skip ?_
    refine K.norm_then ?_
    refine K.seq ?_
    refine K.block ?_
    refine sr ?_
    iterate 2 refine qm ?_
    refine K.seq_ix (M := []) _ hR.sl sl_22 rfl rfl rfl (by omega) rfl ?_
    intro p55 hp55
    refine zN ?_
    refine qp (K.fieldAddr fo_44_1 rfl) ?_
    refine K.seq_sil (K.load1 one_3 rfl ((K.PtrL.fld hp55 (k := 1)).any)) rfl ?_
    refine zN ?_
    refine qp (K.eql rfl rfl) ?_
    refine sn ?_
    refine K.cond rfl (fun ht58 => ?_) (fun ht58 => ?_)
    · try replace ht58 := of_decide_eq_true ht58
      refine sr ?_
      refine qm ?_
      refine qp (K.add_i64 rfl rfl (by omega)) ?_
      refine qa ?_
      refine sn ?_
      refine sr ?_
      refine qm ?_
      refine qp (K.eql rfl rfl) ?_
      refine sn ?_
      refine K.cond rfl (fun ht62 => ?_) (fun ht62 => ?_)
      · try replace ht62 := of_decide_eq_true ht62
        refine sr ?_
        refine qm ?_
        iterate 3 refine qa ?_
        refine sn ?_
        refine K.ret ?_
        refine K.ret_block ?_
        refine K.ret_then ?_
        refine K.ret_then ?_
        refine K.ret_block ?_
        refine K.ret_then ?_
        refine K.end_ret (fun w _ => K.res_ttt rfl w) ?_
        obtain ⟨hm2, hm3⟩ := mou_two (by omega) ht58 hj
        exact K.gives (by rw [chk_4 hln hf0 hm2, hm3]; rfl)
      try replace ht62 := of_decide_eq_false ht62
      refine K.skip ?_
      refine K.norm_block ?_
      refine K.norm_then ?_
      refine K.region_lit ?_
      refine qm ?_
      refine qp (K.add_i64 rfl rfl (by omega)) ?_
      refine qa ?_
      refine K.seq_nil ?_
      have hm1 : (mouS r (j + 1)).length = (mouS r j).length + 1 := by rw [mou_s ht58, List.length_append]; rfl
      exact K.round_endW (L'' := [K.row (.slice Q1 ((r.take k).map (·.nm)).length q1) 9 1 ((r.take k).map (·.nm)).length (((r.take k).map (·.nm)).flatMap eB)]) [.int .i64 (((mouS r j).length : Int) + 1), .int .i64 ((j : Int) + 1)] ⟨j + 1, by rw [hm1]; rfl, rfl, by omega, by omega⟩ (by simp [K.nth, intOf]; omega) (List.Sublist.refl _) (by kernel_rfl)
    try replace ht58 := of_decide_eq_false ht58
    refine K.skip ?_
    refine K.norm_block ?_
    refine K.norm_then ?_
    refine K.region_lit ?_
    refine qm ?_
    refine qp (K.add_i64 rfl rfl (by omega)) ?_
    refine qa ?_
    refine K.seq_nil ?_
    have hm1 : (mouS r (j + 1)).length = (mouS r j).length := by rw [mou_n ht58]
    exact K.round_endW (L'' := [K.row (.slice Q1 ((r.take k).map (·.nm)).length q1) 9 1 ((r.take k).map (·.nm)).length (((r.take k).map (·.nm)).flatMap eB)]) [.int .i64 ((mouS r j).length : Int), .int .i64 ((j : Int) + 1)] ⟨j + 1, by rw [hm1]; rfl, rfl, by omega, by omega⟩ (by simp [K.nth, intOf]; omega) (List.Sublist.refl _) (by kernel_rfl)
  try replace ht50 := of_decide_eq_false ht50
  refine K.exit ?_
  refine K.exit_then ?_
  refine K.exit_then ?_
  refine K.exit_here ?_
  refine K.norm_then ?_
  refine K.seq ?_
  refine sr ?_
  refine qm ?_
  refine qp (K.eql rfl rfl) ?_
  refine sn ?_
  refine K.cond rfl (fun ht65 => ?_) (fun ht65 => ?_)
  · try replace ht65 := of_decide_eq_true ht65
    refine sr ?_
    iterate 3 refine qa ?_
    refine sn ?_
    refine K.ret ?_
    refine K.ret_then ?_
    refine K.end_ret (fun w _ => K.res_ttt rfl w) ?_
    obtain rfl : j = r.length := by omega
    exact K.gives (by rw [chk_3 hln hf0 (by omega)]; rfl)
  try replace ht65 := of_decide_eq_false ht65
  refine K.skip ?_
  refine K.norm_then ?_
  refine K.seq ?_
  refine sr ?_
  refine qa ?_
  refine sn ?_
  refine K.block ?_
  refine K.loopW [10] [2, 3, 4, 11, 12, 66, 67, 68, 69, 70, 71, 72, 73, 74, 75, 76, 77, 78, 79, 80, 81, 82, 83, 84, 85, 86, 87, 88, 89, 90, 91, 92, 93, 94, 95, 96, 97, 98] (fun vi L => ∃ i : Nat, vi = [.int .i64 (i : Int)] ∧ L = [K.row (.slice Q1 ((r.take k).map (·.nm)).length q1) 9 1 ((r.take k).map (·.nm)).length (((r.take k).map (·.nm)).flatMap eB)] ∧ i ≤ r.length ∧ ∀ j, j < i → reaB r j = true) (fun vi => r.length - (intOf (K.nth vi 0)).toNat) ?_ ?_
  · exact ⟨0, rfl, rfl, Nat.zero_le _, fun j hj => absurd hj (Nat.not_lt_zero j)⟩
  intro vi vr L hJ
  obtain ⟨i, rfl, rfl, hin, hrea⟩ := hJ
  try dsimp only [setd, setn, ev, nth, over, cl, eI, eP, eT, eR, setM, setF, List.map, List.append, List.drop, List.take]
  refine K.seq ?_
  refine sr ?_
  iterate 2 refine qm ?_
  refine qp (K.len_sl sl_22 rfl) ?_
  refine qp (K.lss rfl rfl) ?_
  refine sn ?_
  refine K.cond rfl (fun ht69 => ?_) (fun ht69 => ?_)
  · try replace ht69 := of_decide_eq_true ht69
    have hi : i < r.length := by omega
    refine K.skip ?_
    refine K.norm_then ?_
    refine K.seq ?_
    refine K.block ?_
    refine sr ?_
    refine qm ?_
    refine qa ?_
    refine sn ?_
    refine K.seq ?_
    refine sr ?_
    refine qa ?_
    refine sn ?_
    refine K.block ?_
    refine K.loopW [11, 12] [73, 74, 75, 76, 77, 78, 79, 80, 81, 82, 83, 84, 85, 86, 87, 88, 89, 90, 91] (fun vi L => ∃ a : Nat, vi = [.int .i64 ((stps r a i : Nat) : Int), .int .i64 (a : Int)] ∧ L = [K.row (.slice Q1 ((r.take k).map (·.nm)).length q1) 9 1 ((r.take k).map (·.nm)).length (((r.take k).map (·.nm)).flatMap eB)] ∧ a ≤ r.length) (fun vi => r.length - (intOf (K.nth vi 1)).toNat) ?_ ?_
    · exact ⟨0, rfl, rfl, Nat.zero_le _⟩
    intro vi vr L hJ
    obtain ⟨a, rfl, rfl, han⟩ := hJ
    try dsimp only [setd, setn, ev, nth, over, cl, eI, eP, eT, eR, setM, setF, List.map, List.append, List.drop, List.take]
    refine K.seq ?_
    refine sr ?_
    iterate 2 refine qm ?_
    refine qp (K.len_sl sl_22 rfl) ?_
    refine qp (K.lss rfl rfl) ?_
    refine qm ?_
    refine K.split 77 rfl (fun hg77 => ?_) (fun hg77 => ?_)
    · try replace hg77 := of_decide_eq_true hg77
      have hal : a < r.length := by omega
      have hsl := stps_in hdn hi a
      have hsd := hdn _ hsl
      iterate 2 refine qm ?_
      refine K.seq_ix (M := []) (stps r a i) hR.sl sl_22 rfl rfl (by omega) (by omega) rfl ?_
      intro p80 hp80
      refine zN ?_
      refine qp (K.fieldAddr fo_44_1 rfl) ?_
      refine K.seq_sil (K.load1 one_3 rfl ((K.PtrL.fld hp80 (k := 1)).any)) rfl ?_
      refine zN ?_
      refine qp (K.neq rfl rfl) ?_
      refine qp (K.pick_t rfl) ?_
      refine sn ?_
      refine K.cond rfl (fun ht84 => ?_) (fun ht84 => ?_)
      · try replace ht84 := of_decide_eq_true ht84
        refine K.skip ?_
        refine K.norm_then ?_
        refine K.seq ?_
        refine K.block ?_
        refine K.region_lit ?_
        iterate 2 refine qm ?_
        refine K.seq_ix (M := []) (stps r a i) hR.sl sl_22 rfl rfl (by omega) (by omega) rfl ?_
        intro p89 hp89
        refine zN ?_
        refine qp (K.fieldAddr fo_44_1 rfl) ?_
        refine K.seq_sil (K.load1 one_3 rfl ((K.PtrL.fld hp89 (k := 1)).any)) rfl ?_
        refine zN ?_
        refine qa ?_
        refine K.seq_nil ?_
        refine K.norm_block ?_
        refine K.norm_then ?_
        refine K.region_lit ?_
        refine qm ?_
        refine qp (K.add_i64 rfl rfl (by omega)) ?_
        refine qa ?_
        refine K.seq_nil ?_
        have hst1 : ((stps r (a + 1) i : Nat) : Int) = (r.getD (stps r a i) default).dn := by rw [stps_up ht84]; omega
        exact K.round_endW (L'' := [K.row (.slice Q1 ((r.take k).map (·.nm)).length q1) 9 1 ((r.take k).map (·.nm)).length (((r.take k).map (·.nm)).flatMap eB)]) [.int .i64 (r.getD (stps r a i) default).dn, .int .i64 ((a : Int) + 1)] ⟨a + 1, by rw [hst1]; rfl, rfl, by omega⟩ (by simp [K.nth, intOf]; omega) (List.Sublist.refl _) (by kernel_rfl)
      try replace ht84 := of_decide_eq_false ht84
      refine K.exit ?_
      refine K.exit_then ?_
      refine K.exit_then ?_
      refine K.exit_here ?_
      refine K.norm_then ?_
      refine sr ?_
      iterate 2 refine qm ?_
      refine K.seq_ix (M := []) (stps r a i) hR.sl sl_22 rfl rfl (by omega) (by omega) rfl ?_
      intro p94 hp94
      refine zN ?_
      refine qp (K.fieldAddr fo_44_1 rfl) ?_
      refine K.seq_sil (K.load1 one_3 rfl ((K.PtrL.fld hp94 (k := 1)).any)) rfl ?_
      refine zN ?_
      refine qp (K.neq rfl rfl) ?_
      refine sn ?_
      refine K.cond rfl (fun ht97 => ?_) (fun ht97 => ?_)
      · try replace ht97 := of_decide_eq_true ht97
        refine sr ?_
        refine qm ?_
        iterate 3 refine qa ?_
        refine sn ?_
        refine K.ret ?_
        refine K.ret_block ?_
        refine K.ret_then ?_
        refine K.ret_then ?_
        refine K.ret_block ?_
        refine K.ret_then ?_
        refine K.end_ret (fun w _ => K.res_ttt rfl w) ?_
        obtain rfl : j = r.length := by omega
        first
          | (subst haa; have hre : reaB r i = false := decide_eq_false ht97
             exact K.gives (by rw [chk_5 hln hf0 (by omega) hi hrea hre]; rfl))
          | exact absurd (Decidable.not_not.1 ht84) ht97
      try replace ht97 := of_decide_eq_false ht97
      refine K.skip ?_
      refine K.norm_block ?_
      refine K.norm_then ?_
      refine K.region_lit ?_
      refine qm ?_
      refine qp (K.add_i64 rfl rfl (by omega)) ?_
      refine qa ?_
      refine K.seq_nil ?_
      have hre : reaB r i = true := by
        have hd : (r.getD (stps r a i) default).dn = -1 := Decidable.not_not.1 ht97
        exact decide_eq_true (by rw [stps_rest hd han]; exact hd)
      exact K.round_endW (L'' := [K.row (.slice Q1 ((r.take k).map (·.nm)).length q1) 9 1 ((r.take k).map (·.nm)).length (((r.take k).map (·.nm)).flatMap eB)]) [.int .i64 ((i : Int) + 1)] ⟨i + 1, rfl, rfl, by omega, K.lt_succ_case hrea hre⟩ (by simp [K.nth, intOf]; omega) (List.Sublist.refl _) (by kernel_rfl)
    try replace hg77 := of_decide_eq_false hg77
    have haa : a = r.length := by omega
    have hsl := stps_in hdn hi a
    iterate 6 refine qs ?_
    refine qp (K.pick_f rfl) ?_
    refine sn ?_
    refine K.cond_false rfl ?_
    refine K.exit ?_
    refine K.exit_then ?_
    refine K.exit_then ?_
    refine K.exit_here ?_
    refine K.norm_then ?_
    refine sr ?_
    iterate 2 refine qm ?_
    refine K.seq_ix (M := []) (stps r a i) hR.sl sl_22 rfl rfl (by omega) (by omega) rfl ?_
    intro p94 hp94
    refine zN ?_
    refine qp (K.fieldAddr fo_44_1 rfl) ?_
    refine K.seq_sil (K.load1 one_3 rfl ((K.PtrL.fld hp94 (k := 1)).any)) rfl ?_
    refine zN ?_
    refine qp (K.neq rfl rfl) ?_
    refine sn ?_
    refine K.cond rfl (fun ht97 => ?_) (fun ht97 => ?_)
    · try replace ht97 := of_decide_eq_true ht97
      refine sr ?_
      refine qm ?_
      iterate 3 refine qa ?_
      refine sn ?_
      refine K.ret ?_
      refine K.ret_block ?_
      refine K.ret_then ?_
      refine K.ret_then ?_
      refine K.ret_block ?_
      refine K.ret_then ?_
      refine K.end_ret (fun w _ => K.res_ttt rfl w) ?_
      obtain rfl : j = r.length := by omega
      first
        | (subst haa; have hre : reaB r i = false := decide_eq_false ht97
           exact K.gives (by rw [chk_5 hln hf0 (by omega) hi hrea hre]; rfl))
        | exact absurd (Decidable.not_not.1 ht84) ht97
    try replace ht97 := of_decide_eq_false ht97
    refine K.skip ?_
    refine K.norm_block ?_
    refine K.norm_then ?_
    refine K.region_lit ?_
    refine qm ?_
    refine qp (K.add_i64 rfl rfl (by omega)) ?_
    refine qa ?_
    refine K.seq_nil ?_
    have hre : reaB r i = true := by
      have hd : (r.getD (stps r a i) default).dn = -1 := Decidable.not_not.1 ht97
      exact decide_eq_true (by rw [stps_rest hd han]; exact hd)
    exact K.round_endW (L'' := [K.row (.slice Q1 ((r.take k).map (·.nm)).length q1) 9 1 ((r.take k).map (·.nm)).length (((r.take k).map (·.nm)).flatMap eB)]) [.int .i64 ((i : Int) + 1)] ⟨i + 1, rfl, rfl, by omega, K.lt_succ_case hrea hre⟩ (by simp [K.nth, intOf]; omega) (List.Sublist.refl _) (by kernel_rfl)
  try replace ht69 := of_decide_eq_false ht69
  refine K.exit ?_
  refine K.exit_then ?_
  refine K.exit_then ?_
  refine K.exit_here ?_
  refine K.norm_then ?_
  refine sr ?_
  iterate 3 refine qa ?_
  refine sn ?_
  refine K.ret ?_
  refine K.end_ret (fun w _ => K.res_ttt rfl w) ?_
  obtain rfl : j = r.length := by omega
  exact K.gives (by rw [chk_0 hln hf0 (by omega) (fun j hj => hrea j (by omega))]; rfl)

end Go.Proofs.YtoemnobfnnjopaaDoor
end
section
set_option linter.unusedSimpArgs false
set_option linter.unusedVariables false
namespace Go.Proofs.YtoemnobfnnjopaaDoor
open Go.RowKit Go
open Go.K (setd setn ev nth over cl eI eP eT setM setF)
attribute [local irreducible] K.blk K.row
/-- What the reference's points hand out. -/
theorem drp_out {r : List RvT} {i k j : Nat} (g : Good r) (hi : i < r.length) (hj : j ≤ dep r i) (hall : ∀ x, x < j → stps r x i ≠ k) (e : stps r j i ≠ k) (hm : (r.getD (stps r j i) default).dn = -1) : drp r i k = -1 := by
  refine drp_no g hi fun hb => ?_
  obtain ⟨x, hx, h⟩ := (bl_fin g hi).1 hb
  have hd := dep_is g hi
  have : j = dep r i := by
    rcases Nat.lt_or_ge j (dep r i) with h1 | h1
    · exact absurd hm (hd.2.2 j h1)
    · omega
  subst this
  rcases Nat.lt_or_ge x (dep r i) with h1 | h1
  · exact hall x h1 h
  · rw [show x = dep r i by omega] at h; exact e h
theorem own_s {r : List RvT} {i : Nat} (hi : i < r.length) : (r.take (i + 1)).map (·.ht) = (r.take i).map (·.ht) ++ [(r.getD i default).ht] := take_succ_map (fun p : RvT => p.ht) hi

set_option maxRecDepth 100000 in
theorem c37 {r : List RvT} {A : Option Addr} {c : Nat} {i k : Nat} {w : World} (hR : K.Rd w A 4 eR r) (g : Good r) (hi : i < r.length) :
    Calls Tryd.prog 37 [.slice A r.length c, .int .i64 (i : Int), .int .i64 (k : Int)].toArray w (K.Gives (.int .i64 (drp r i k)) w) := by
  have hgn := g.n
  have hdl := DM_le g hi
  have hdi := dep_is g hi
  refine K.enter (args := [.slice A r.length c, .int .i64 (i : Int), .int .i64 (k : Int)]) Tryd.func37 rfl (n := 27) rfl ?_
  simp only [List.replicate, List.cons_append, List.nil_append]
  refine sr ?_
  refine qa ?_
  refine sn ?_
  refine sr ?_
  refine qa ?_
  refine sn ?_
  refine K.seq ?_
  refine K.block ?_
  refine K.loopW [1, 7] [6, 8, 9, 10, 11, 12, 13, 14, 15, 16, 17, 18, 19, 20, 21, 22, 23, 24, 25, 26, 27, 28] (fun vi L => ∃ j : Nat, vi = [.int .i64 ((stps r j i : Nat) : Int), .int .i64 (DM r i - DM r (stps r j i))] ∧ L = [] ∧ j ≤ dep r i ∧ ∀ x, x < j → stps r x i ≠ k) (fun vi => dep r (intOf (K.nth vi 0)).toNat) ?_ ?_
  · exact ⟨0, by simp only [List.map, K.nth, stps]; rw [Int.sub_self], rfl, Nat.zero_le _, fun x hx => absurd hx (Nat.not_lt_zero x)⟩
  intro vi vr L hJ
  obtain ⟨j, rfl, rfl, hjd, hall⟩ := hJ
  try dsimp only [setd, setn, ev, nth, over, cl, eI, eP, eT, eR, setM, setF, List.map, List.append, List.drop, List.take]
  refine K.seq ?_
  refine sr ?_
  iterate 2 refine qm ?_
  refine qp (K.neq rfl rfl) ?_
  refine sn ?_
  refine K.cond rfl (fun ht10 => ?_) (fun ht10 => ?_)
  · try replace ht10 := of_decide_eq_true ht10
    have hls := stps_lt g hi j
    have hpj := g.p _ hls
    have hdk := DM_le g hls
    refine K.skip ?_
    refine K.norm_then ?_
    refine K.block ?_
    refine K.seq ?_
    refine sr ?_
    iterate 2 refine qm ?_
    refine K.seq_ix (M := []) (stps r j i) hR.sl sl_22 rfl rfl (by omega) (by omega) rfl ?_
    intro p13 hp13
    refine zN ?_
    refine qp (K.fieldAddr fo_44_1 rfl) ?_
    refine K.seq_sil (K.load1 one_3 rfl ((K.PtrL.fld hp13 (k := 1)).any)) rfl ?_
    refine zN ?_
    refine qp (K.eql rfl rfl) ?_
    refine sn ?_
    refine K.cond rfl (fun ht16 => ?_) (fun ht16 => ?_)
    · try replace ht16 := of_decide_eq_true ht16
      refine sr ?_
      refine qa ?_
      refine sn ?_
      refine K.ret ?_
      refine K.ret_then ?_
      refine K.ret_block ?_
      refine K.ret_then ?_
      refine K.ret_block ?_
      refine K.ret_then ?_
      refine K.end_ret (fun w _ => K.res_tmp rfl w) ?_
      exact K.gives_i rfl (drp_out g hi hjd hall (fun e => ht10 (by rw [e])) ht16).symm
    try replace ht16 := of_decide_eq_false ht16
    refine K.skip ?_
    refine K.norm_then ?_
    refine sr ?_
    iterate 3 refine qm ?_
    refine K.seq_ix (M := []) (stps r j i) hR.sl sl_22 rfl rfl (by omega) (by omega) rfl ?_
    intro p20 hp20
    refine zN ?_
    refine qp (K.fieldAddr fo_44_2 rfl) ?_
    refine K.seq_sil (K.load1 one_3 rfl ((K.PtrL.fld hp20 (k := 2)).any)) rfl ?_
    refine zN ?_
    refine qp (K.add_i64 rfl rfl (by omega)) ?_
    refine qa ?_
    refine sn ?_
    refine K.region_lit ?_
    iterate 2 refine qm ?_
    refine K.seq_ix (M := []) (stps r j i) hR.sl sl_22 rfl rfl (by omega) (by omega) rfl ?_
    intro p26 hp26
    refine zN ?_
    refine qp (K.fieldAddr fo_44_1 rfl) ?_
    refine K.seq_sil (K.load1 one_3 rfl ((K.PtrL.fld hp26 (k := 1)).any)) rfl ?_
    refine zN ?_
    refine qa ?_
    refine K.seq_nil ?_
    refine K.norm_block ?_
    have hd : (r.getD (stps r j i) default).dn ≠ -1 := ht16
    have hup := stps_up hd
    have hjl : j < dep r i := by
      rcases Nat.lt_or_ge j (dep r i) with h | h
      · exact h
      · rw [show j = dep r i by omega] at hd; exact absurd hdi.2.1 hd
    have hst : ((stps r (j + 1) i : Nat) : Int) = (r.getD (stps r j i) default).dn := by rw [hup]; omega
    have hdr : DM r i - DM r (stps r j i) + (r.getD (stps r j i) default).ls = DM r i - DM r (stps r (j + 1) i) := by rw [hup]; have := DM_d g hls hd; omega
    exact K.round_endW (L'' := []) [.int .i64 (r.getD (stps r j i) default).dn, .int .i64 (DM r i - DM r (stps r j i) + (r.getD (stps r j i) default).ls)] ⟨j + 1, by rw [hst, hdr], rfl, hjl, K.lt_succ_case hall (fun e => ht10 (by rw [e]))⟩ (by show dep r (r.getD (stps r j i) default).dn.toNat < dep r ((stps r j i : Nat) : Int).toNat; rw [← hup, Int.toNat_natCast, dep_stps g hi, dep_stps g hi]; omega) (List.nil_sublist _) (by kernel_rfl)
  try replace ht10 := of_decide_eq_false ht10
  refine K.exit ?_
  refine K.exit_then ?_
  refine K.exit_then ?_
  refine K.exit_here ?_
  refine K.norm_then ?_
  refine sr ?_
  refine qm ?_
  refine qa ?_
  refine sn ?_
  refine K.ret ?_
  refine K.end_ret (fun w _ => K.res_tmp rfl w) ?_
  have e0 : stps r j i = k := by omega
  exact K.gives_i rfl (by rw [drp_bl g hi ⟨j, e0⟩, e0])

set_option maxRecDepth 100000 in
theorem c55 {r : List RvT} {A : Option Addr} {c : Nat} {H : Option Addr} {d : Nat} {hs : List Int} {w : World} (hR : K.Rd w A 4 eR r) (hH : K.Rd w H 1 K.eI hs) (hl : hs.length = r.length) (g : Good r) (hb : ∀ j, j < r.length → -100000 ≤ hs.getD j default ∧ hs.getD j default ≤ 100000) :
    Calls Tryd.prog 55 [.slice A r.length c, .slice H hs.length d].toArray w (K.RetS 3 1 K.eI (badS r hs) w) := by
  have hgn := g.n
  refine K.enter (args := [.slice A r.length c, .slice H hs.length d]) Tryd.func55 rfl (n := 43) rfl ?_
  simp only [List.replicate, List.cons_append, List.nil_append]
  refine sr ?_
  refine qa ?_
  refine sn ?_
  refine sr ?_
  refine qa ?_
  refine sn ?_
  refine K.seq ?_
  refine sr ?_
  refine K.nil_row (e := 3) (size := 1) ?_
  refine qa ?_
  refine sn ?_
  refine K.block ?_
  refine K.loopW [5, 6] [7, 8, 9, 10, 11, 12, 13, 14, 15, 16, 17, 18, 19, 20, 21, 22, 23, 24, 25, 26, 27, 28, 29, 30, 31, 32, 33, 34, 35, 36, 37, 38, 39, 40, 41, 42, 43] (fun vi L => ∃ (i : Nat) (Q1 : Option Addr) (q1 : Nat), vi = [.slice Q1 (selN (badB r hs) i).length q1, .int .i64 (i : Int)] ∧ L = [K.row (.slice Q1 (selN (badB r hs) i).length q1) 3 1 (selN (badB r hs) i).length ((selN (badB r hs) i).flatMap K.eI)] ∧ i ≤ r.length) (fun vi => r.length - (intOf (K.nth vi 1)).toNat) ?_ ?_
  · exact ⟨0, none, 0, rfl, rfl, Nat.zero_le _⟩
  intro vi vr L hJ
  obtain ⟨i, Q1, q1, rfl, rfl, hin⟩ := hJ
  try dsimp only [setd, setn, ev, nth, over, cl, eI, eP, eT, eR, setM, setF, List.map, List.append, List.drop, List.take]
  refine K.seq ?_
  refine sr ?_
  iterate 2 refine qm ?_
  refine qp (K.len_sl sl_22 rfl) ?_
  refine qp (K.lss rfl rfl) ?_
  refine sn ?_
  refine K.cond rfl (fun ht10 => ?_) (fun ht10 => ?_)
  · try replace ht10 := of_decide_eq_true ht10
    have hi : i < r.length := by omega
    have hsl : (selN (badB r hs) i).length ≤ i := selN_len
    have hpi := g.p i hi
    have hbi := hb i hi
    refine K.skip ?_
    refine K.norm_then ?_
    refine K.seq ?_
    refine K.block ?_
    refine K.seq ?_
    refine K.draw_L [] Tryd_mixed ?_
    refine K.d_pure 0 rfl (K.move) (by kernel_rfl) rfl ?_
    refine zn ?_
    refine K.d_pure 1 rfl (K.move) (by kernel_rfl) rfl ?_
    refine zn ?_
    refine K.d_ix (M := []) 2 _ rfl hR.sl sl_22 rfl rfl rfl (by omega) (by kernel_rfl) rfl ?_
    intro p15 hp15
    refine zN ?_
    refine K.d_pure 3 rfl (K.fieldAddr fo_44_1 rfl) (by kernel_rfl) rfl ?_
    refine zn ?_
    refine K.d_mem 4 rfl (K.load1 one_3 rfl ((K.PtrL.fld hp15 (k := 1)).any)) (fun _ h => h) (by kernel_rfl) (by kernel_rfl) rfl ?_
    refine zN ?_
    refine K.d_pure 5 rfl (K.neq rfl rfl) (by kernel_rfl) rfl ?_
    refine zn ?_
    refine K.d_pure 6 rfl (K.move) (by kernel_rfl) rfl ?_
    refine zn ?_
    refine K.dsplit 19 rfl (fun hg19 => ?_) (fun hg19 => ?_)
    · try replace hg19 := of_decide_eq_true hg19
      have hd : (r.getD i default).dn ≠ -1 := hg19
      have hdl := dn_lt g hi hd
      have hdv : (((r.getD i default).dn.toNat : Nat) : Int) = (r.getD i default).dn := by omega
      have hbd := hb _ hdl
      refine K.d_pure 7 rfl (K.move) (by kernel_rfl) rfl ?_
      refine zn ?_
      refine K.d_pure 8 rfl (K.move) (by kernel_rfl) rfl ?_
      refine zn ?_
      refine K.d_ix (M := []) 9 _ rfl hH.sl sl_26 rfl rfl rfl (by omega) (by kernel_rfl) rfl ?_
      intro p22 hp22
      refine zN ?_
      refine K.d_mem 10 rfl (K.load1 one_3 rfl (hp22.any)) (fun _ h => h) (by kernel_rfl) (by kernel_rfl) rfl ?_
      refine zN ?_
      refine K.d_pure 11 rfl (K.move) (by kernel_rfl) rfl ?_
      refine zn ?_
      refine K.d_pure 12 rfl (K.move) (by kernel_rfl) rfl ?_
      refine zn ?_
      refine K.d_pure 13 rfl (K.move) (by kernel_rfl) rfl ?_
      refine zn ?_
      refine K.d_ix (M := []) 14 _ rfl hR.sl sl_22 rfl rfl rfl (by omega) (by kernel_rfl) rfl ?_
      intro p27 hp27
      refine zN ?_
      refine K.d_pure 15 rfl (K.fieldAddr fo_44_1 rfl) (by kernel_rfl) rfl ?_
      refine zn ?_
      refine K.d_mem 16 rfl (K.load1 one_3 rfl ((K.PtrL.fld hp27 (k := 1)).any)) (fun _ h => h) (by kernel_rfl) (by kernel_rfl) rfl ?_
      refine zN ?_
      refine K.d_ix (M := []) 17 (r.getD i default).dn.toNat rfl hH.sl sl_26 rfl rfl (by omega) (by omega) (by kernel_rfl) rfl ?_
      intro p30 hp30
      refine zN ?_
      refine K.d_mem 18 rfl (K.load1 one_3 rfl (hp30.any)) (fun _ h => h) (by kernel_rfl) (by kernel_rfl) rfl ?_
      refine zN ?_
      refine K.d_pure 19 rfl (K.move) (by kernel_rfl) rfl ?_
      refine zn ?_
      refine K.d_pure 20 rfl (K.move) (by kernel_rfl) rfl ?_
      refine zn ?_
      refine K.d_ix (M := []) 21 _ rfl hR.sl sl_22 rfl rfl rfl (by omega) (by kernel_rfl) rfl ?_
      intro p34 hp34
      refine zN ?_
      refine K.d_pure 22 rfl (K.fieldAddr fo_44_2 rfl) (by kernel_rfl) rfl ?_
      refine zn ?_
      refine K.d_mem 23 rfl (K.load1 one_3 rfl ((K.PtrL.fld hp34 (k := 2)).any)) (fun _ h => h) (by kernel_rfl) (by kernel_rfl) rfl ?_
      refine zN ?_
      refine K.d_pure 24 rfl (K.add_i64 rfl rfl (by omega)) (by kernel_rfl) rfl ?_
      refine zn ?_
      refine K.d_pure 25 rfl (K.lss rfl rfl) (by kernel_rfl) rfl ?_
      refine zn ?_
      refine K.d_pure 26 rfl (K.pick_t rfl) (by kernel_rfl) rfl ?_
      refine zn ?_
      refine K.d_done (by kernel_rfl) ?_
      refine K.norm_then ?_
      refine K.cond rfl (fun ht39 => ?_) (fun ht39 => ?_)
      · try replace ht39 := of_decide_eq_true ht39
        refine K.region_lit ?_
        iterate 2 refine qm ?_
        refine K.seq_new (K.buildSlice (bs1 _)) rfl ?_
        intro b42
        refine zN ?_
        refine K.seq_upd (K.append el_26 rfl rfl (K.PtrL.own' (K.m0)) rfl rfl (by decide) (by omega) (by omega) (fun _ _ => K.rp1)) rfl ?_
        rintro ⟨g43, c43⟩ _
        refine zN ?_
        refine qa ?_
        refine K.seq_nil ?_
        refine K.norm_block ?_
        refine K.norm_then ?_
        refine K.region_lit ?_
        refine qm ?_
        refine qp (K.add_i64 rfl rfl (by omega)) ?_
        refine qa ?_
        refine K.seq_nil ?_
        have hbb : badB r hs i = true := bad_iff.2 ⟨hd, by omega⟩
        have hsn := selN_yes hbb
        exact K.round_endW (L'' := [K.row (.slice (some ⟨g43, 0, none⟩) ((selN (badB r hs) i).length + 1) c43) 3 1 ((selN (badB r hs) i).length + 1) ((selN (badB r hs) i).flatMap K.eI ++ [.int .i64 (i : Int)])]) [.slice (some ⟨g43, 0, none⟩) ((selN (badB r hs) i).length + 1) c43, .int .i64 ((i : Int) + 1)] ⟨i + 1, some ⟨g43, 0, none⟩, c43, by rw [hsn, List.length_append]; rfl, by rw [hsn, List.length_append, List.flatMap_append]; rfl, by omega⟩ (by simp [K.nth, intOf]; omega) (List.Sublist.cons _ (List.Sublist.refl _)) (by kernel_rfl)
      try replace ht39 := of_decide_eq_false ht39
      refine K.skip ?_
      refine K.norm_block ?_
      refine K.norm_then ?_
      refine K.region_lit ?_
      refine qm ?_
      refine qp (K.add_i64 rfl rfl (by omega)) ?_
      refine qa ?_
      refine K.seq_nil ?_
      have hbb : badB r hs i = false := by first | exact bad_no.2 (.inl (Decidable.not_not.1 hd)) | exact bad_no.2 (.inr (by omega))
      have hsn := selN_no hbb
      exact K.round_endW (L'' := [K.row (.slice Q1 (selN (badB r hs) i).length q1) 3 1 (selN (badB r hs) i).length ((selN (badB r hs) i).flatMap K.eI)]) [.slice Q1 (selN (badB r hs) i).length q1, .int .i64 ((i : Int) + 1)] ⟨i + 1, Q1, q1, by rw [hsn]; rfl, by rw [hsn], by omega⟩ (by simp [K.nth, intOf]; omega) (List.Sublist.refl _) (by kernel_rfl)
    try replace hg19 := of_decide_eq_false hg19
    have hd : ¬ (r.getD i default).dn ≠ -1 := hg19
    refine K.d_skip 7 rfl (by kernel_rfl) rfl ?_
    refine zN ?_
    refine K.d_skip 8 rfl (by kernel_rfl) rfl ?_
    refine zN ?_
    refine K.d_skip 9 rfl (by kernel_rfl) rfl ?_
    refine zN ?_
    refine K.d_skip 10 rfl (by kernel_rfl) rfl ?_
    refine zN ?_
    refine K.d_skip 11 rfl (by kernel_rfl) rfl ?_
    refine zN ?_
    refine K.d_skip 12 rfl (by kernel_rfl) rfl ?_
    refine zN ?_
    refine K.d_skip 13 rfl (by kernel_rfl) rfl ?_
    refine zN ?_
    refine K.d_skip 14 rfl (by kernel_rfl) rfl ?_
    refine zN ?_
    refine K.d_skip 15 rfl (by kernel_rfl) rfl ?_
    refine zN ?_
    refine K.d_skip 16 rfl (by kernel_rfl) rfl ?_
    refine zN ?_
    refine K.d_skip 17 rfl (by kernel_rfl) rfl ?_
    refine zN ?_
    refine K.d_skip 18 rfl (by kernel_rfl) rfl ?_
    refine zN ?_
    refine K.d_skip 19 rfl (by kernel_rfl) rfl ?_
    refine zN ?_
    refine K.d_skip 20 rfl (by kernel_rfl) rfl ?_
    refine zN ?_
    refine K.d_skip 21 rfl (by kernel_rfl) rfl ?_
    refine zN ?_
    refine K.d_skip 22 rfl (by kernel_rfl) rfl ?_
    refine zN ?_
    refine K.d_skip 23 rfl (by kernel_rfl) rfl ?_
    refine zN ?_
    refine K.d_skip 24 rfl (by kernel_rfl) rfl ?_
    refine zN ?_
    refine K.d_skip 25 rfl (by kernel_rfl) rfl ?_
    refine zN ?_
    refine K.d_pure 26 rfl (K.pick_f rfl) (by kernel_rfl) rfl ?_
    refine zn ?_
    refine K.d_done (by kernel_rfl) ?_
    refine K.norm_then ?_
    refine K.cond_false rfl ?_
    refine K.skip ?_
    refine K.norm_block ?_
    refine K.norm_then ?_
    refine K.region_lit ?_
    refine qm ?_
    refine qp (K.add_i64 rfl rfl (by omega)) ?_
    refine qa ?_
    refine K.seq_nil ?_
    have hbb : badB r hs i = false := by first | exact bad_no.2 (.inl (Decidable.not_not.1 hd)) | exact bad_no.2 (.inr (by omega))
    have hsn := selN_no hbb
    exact K.round_endW (L'' := [K.row (.slice Q1 (selN (badB r hs) i).length q1) 3 1 (selN (badB r hs) i).length ((selN (badB r hs) i).flatMap K.eI)]) [.slice Q1 (selN (badB r hs) i).length q1, .int .i64 ((i : Int) + 1)] ⟨i + 1, Q1, q1, by rw [hsn]; rfl, by rw [hsn], by omega⟩ (by simp [K.nth, intOf]; omega) (List.Sublist.refl _) (by kernel_rfl)
  try replace ht10 := of_decide_eq_false ht10
  refine K.exit ?_
  refine K.exit_then ?_
  refine K.exit_then ?_
  refine K.exit_here ?_
  refine K.norm_then ?_
  refine sr ?_
  refine qm ?_
  refine qa ?_
  refine sn ?_
  refine K.ret ?_
  refine K.end_ret (fun w _ => K.res_tmp rfl w) ?_
  have e0 : i = r.length := by omega
  subst e0
  exact K.rets_s K.m0 rfl rfl rfl

set_option maxRecDepth 100000 in
theorem c56 {r : List RvT} {A : Option Addr} {c : Nat} {w : World} (hR : K.Rd w A 4 eR r) (hn : r.length ≤ 1000000) :
    Calls Tryd.prog 56 [.slice A r.length c].toArray w (K.RetS 3 1 K.eI (ownS r) w) := by
  refine K.enter (args := [.slice A r.length c]) Tryd.func56 rfl (n := 19) rfl ?_
  simp only [List.replicate, List.cons_append, List.nil_append]
  refine sr ?_
  refine qa ?_
  refine sn ?_
  refine sr ?_
  refine qa ?_
  refine sn ?_
  refine K.seq ?_
  refine sr ?_
  refine K.nil_row (e := 3) (size := 1) ?_
  refine qa ?_
  refine sn ?_
  refine K.block ?_
  refine K.loopW [3, 4] [5, 6, 7, 8, 9, 10, 11, 12, 13, 14, 15, 16, 17, 18] (fun vi L => ∃ (i : Nat) (Q1 : Option Addr) (q1 : Nat), vi = [.slice Q1 ((r.take i).map (·.ht)).length q1, .int .i64 (i : Int)] ∧ L = [K.row (.slice Q1 ((r.take i).map (·.ht)).length q1) 3 1 ((r.take i).map (·.ht)).length (((r.take i).map (·.ht)).flatMap K.eI)] ∧ i ≤ r.length) (fun vi => r.length - (intOf (K.nth vi 1)).toNat) ?_ ?_
  · exact ⟨0, none, 0, rfl, rfl, Nat.zero_le _⟩
  intro vi vr L hJ
  obtain ⟨i, Q1, q1, rfl, rfl, hin⟩ := hJ
  try dsimp only [setd, setn, ev, nth, over, cl, eI, eP, eT, eR, setM, setF, List.map, List.append, List.drop, List.take]
  refine K.seq ?_
  refine sr ?_
  iterate 2 refine qm ?_
  refine qp (K.len_sl sl_22 rfl) ?_
  refine qp (K.lss rfl rfl) ?_
  refine sn ?_
  refine K.cond rfl (fun ht8 => ?_) (fun ht8 => ?_)
  · try replace ht8 := of_decide_eq_true ht8
    have hi : i < r.length := by omega
    have hsl : ((r.take i).map (·.ht)).length = i := by rw [List.length_map, List.length_take]; omega
    refine K.skip ?_
    refine K.norm_then ?_
    refine K.seq ?_
    refine K.block ?_
    refine K.region_lit ?_
    iterate 3 refine qm ?_
    refine K.seq_ix (M := []) _ hR.sl sl_22 rfl rfl rfl (by omega) rfl ?_
    intro p14 hp14
    refine zN ?_
    refine qp (K.fieldAddr fo_44_3 rfl) ?_
    refine K.seq_sil (K.load1 one_3 rfl ((K.PtrL.fld hp14 (k := 3)).any)) rfl ?_
    refine zN ?_
    refine K.seq_new (K.buildSlice (bs1 _)) rfl ?_
    intro b17
    refine zN ?_
    refine K.seq_upd (K.append el_26 rfl rfl (K.PtrL.own' (K.m0)) rfl rfl (by decide) (by omega) (by omega) (fun _ _ => K.rp1)) rfl ?_
    rintro ⟨g18, c18⟩ _
    refine zN ?_
    refine qa ?_
    refine K.seq_nil ?_
    refine K.norm_block ?_
    refine K.norm_then ?_
    refine K.region_lit ?_
    refine qm ?_
    refine qp (K.add_i64 rfl rfl (by omega)) ?_
    refine qa ?_
    refine K.seq_nil ?_
    have hsn := own_s hi
    exact K.round_endW (L'' := [K.row (.slice (some ⟨g18, 0, none⟩) (((r.take i).map (·.ht)).length + 1) c18) 3 1 (((r.take i).map (·.ht)).length + 1) (((r.take i).map (·.ht)).flatMap K.eI ++ [.int .i64 (r.getD i default).ht])]) [.slice (some ⟨g18, 0, none⟩) (((r.take i).map (·.ht)).length + 1) c18, .int .i64 ((i : Int) + 1)] ⟨i + 1, some ⟨g18, 0, none⟩, c18, by rw [hsn, List.length_append]; rfl, by rw [hsn, List.length_append, List.flatMap_append]; rfl, by omega⟩ (by simp [K.nth, intOf]; omega) (List.Sublist.cons _ (List.Sublist.refl _)) (by kernel_rfl)
  try replace ht8 := of_decide_eq_false ht8
  refine K.exit ?_
  refine K.exit_then ?_
  refine K.exit_then ?_
  refine K.exit_here ?_
  refine K.norm_then ?_
  refine sr ?_
  refine qm ?_
  refine qa ?_
  refine sn ?_
  refine K.ret ?_
  refine K.end_ret (fun w _ => K.res_tmp rfl w) ?_
  have e0 : i = r.length := by omega
  subst e0
  have hs : ((r.take r.length).map (·.ht)) = ownS r := by rw [List.take_length]; rfl
  rw [hs]
  exact K.rets_s K.m0 rfl rfl rfl

set_option maxRecDepth 100000 in
theorem c35 {r : List RvT} {A : Option Addr} {c : Nat} {w : World} (hR : K.Rd w A 4 eR r) (hn : r.length ≤ 4611686018427387904) :
    Calls Tryd.prog 35 [.slice A r.length c].toArray w (K.Gives (.bool (decide ((chk r).2.2 = 0))) w) := by
  refine K.enter (args := [.slice A r.length c]) Tryd.func35 rfl (n := 13) rfl ?_
  simp only [List.replicate, List.cons_append, List.nil_append]
  refine sr ?_
  refine qa ?_
  refine sn ?_
  refine sr ?_
  refine qm ?_
  refine K.seq_call (K.call_g cal_15 (fun F w hF hw => c15 (hR.pass hw) hn)) rfl ?_
  refine zN ?_
  refine qm ?_
  refine qx ?_
  refine qx ?_
  refine qx ?_
  iterate 3 refine qa ?_
  refine sn ?_
  refine sr ?_
  refine qm ?_
  refine qp (K.eql rfl rfl) ?_
  refine qa ?_
  refine sn ?_
  refine K.ret ?_
  refine K.end_ret (fun w _ => K.res_tmp rfl w) ?_
  exact K.gives rfl

end Go.Proofs.YtoemnobfnnjopaaDoor
end
section
set_option linter.unusedSimpArgs false
set_option linter.unusedVariables false
namespace Go.Proofs.YtoemnobfnnjopaaDoor
open Go.RowKit Go
open Go.K (setd setn ev nth over cl eI eP eT setM setF)
attribute [local irreducible] K.blk K.row
theorem run_l {r : List RvT} {h : List Int} (e : h.length ≠ r.length) : runB r h = false := by
  cases hb : runB r h with
  | false => rfl
  | true => exact absurd (runs_iff.1 hb).l e
theorem run_b {r : List RvT} {h : List Int} {i : Nat} (hi : i < h.length) (e : ¬ (0 ≤ h.getD i default ∧ h.getD i default ≤ 9000)) : runB r h = false := by
  cases hb : runB r h with
  | false => rfl
  | true => have := runs_iff.1 hb; exact absurd (this.b i (by rw [← this.l]; exact hi)) e
theorem run_s {r : List RvT} {h : List Int} (e : h.length = r.length) (hb : ∀ i, i < h.length → 0 ≤ h.getD i default ∧ h.getD i default ≤ 9000) : decide (((badS r h).length : Int) = 0) = runB r h := by
  have h2 : (List.range h.length).all (fun i => decide (0 ≤ h.getD i default ∧ h.getD i default ≤ 9000)) = true := List.all_eq_true.2 fun i hi => decide_eq_true (hb i (List.mem_range.1 hi))
  unfold runB
  rw [decide_eq_true e, h2, Bool.and_self, Bool.true_and, Bool.eq_iff_iff, decide_eq_true_eq, List.isEmpty_iff, ← List.length_eq_zero_iff]
  omega
theorem map_s {f : Nat → Int} {n : Nat} : (List.range (n + 1)).map f = (List.range n).map f ++ [f n] := by rw [List.range_succ, List.map_append]; rfl
theorem map_l {f : Nat → Int} {n : Nat} : ((List.range n).map f).length = n := by rw [List.length_map, List.length_range]
theorem bad_mem {r : List RvT} {h : List Int} {i : Nat} (hi : i < r.length) : ((i : Nat) : Int) ∈ badS r h ↔ badB r h i = true := by
  unfold badS
  rw [mem_sel]
  constructor
  · rintro ⟨j, _, hb, e⟩
    rwa [show i = j by omega]
  · intro hb; exact ⟨i, hi, hb, rfl⟩
theorem fill_bd {r : List RvT} {h : List Int} {i k : Nat} (g : Good r) (hl : h.length = r.length) (hi : i < r.length) (hb : ∀ j, j < r.length → -100000 ≤ h.getD j default ∧ h.getD j default ≤ 100000) : -100000 ≤ fillF r h i k ∧ fillF r h i k ≤ 104500 := by
  have h0 := hb i hi
  refine ⟨by have := fill_ge0 (r := r) (h := h) (i := i) k; omega, fill_le (by omega) (fun k hk => ?_) k⟩
  have := drp_bd (k := k) g hi
  have hk2 := drp_lt g hi hk
  have := hb k hk2
  omega
theorem carve_bd {r : List RvT} {h : List Int} {i : Nat} (g : Good r) (hl : h.length = r.length) (hi : i < r.length) (hb : ∀ j, j < r.length → -100000 ≤ h.getD j default ∧ h.getD j default ≤ 100000) {k : Nat} (hk : k ≤ r.length) : -104500 ≤ carveF r h i k ∧ carveF r h i k ≤ 100000 := by
  have h0 := hb i hi
  refine ⟨carve_ge (by omega) k (fun j hj hd => ?_), by have := carve_le0 (r := r) (h := h) (i := i) k; omega⟩
  have := drp_bd (k := i) g (show j < r.length by omega)
  have := hb j (by omega)
  omega

set_option maxRecDepth 100000 in
theorem c39 {r : List RvT} {A : Option Addr} {c : Nat} {H : Option Addr} {d : Nat} {hs : List Int} {w : World} (hR : K.Rd w A 4 eR r) (hH : K.Rd w H 1 K.eI hs) (g : Good r) (hn : hs.length ≤ 1000000) :
    Calls Tryd.prog 39 [.slice A r.length c, .slice H hs.length d].toArray w (K.Gives (.bool (runB r hs)) w) := by
  refine K.enter (args := [.slice A r.length c, .slice H hs.length d]) Tryd.func39 rfl (n := 26) rfl ?_
  simp only [List.replicate, List.cons_append, List.nil_append]
  refine sr ?_
  refine qa ?_
  refine sn ?_
  refine K.seq ?_
  refine sr ?_
  refine qm ?_
  refine qp (K.len_sl sl_26 rfl) ?_
  refine qm ?_
  refine qp (K.len_sl sl_22 rfl) ?_
  refine qp (K.neq rfl rfl) ?_
  refine sn ?_
  refine K.cond rfl (fun ht10 => ?_) (fun ht10 => ?_)
  · try replace ht10 := of_decide_eq_true ht10
    refine sr ?_
    refine qa ?_
    refine sn ?_
    refine K.ret ?_
    refine K.ret_then ?_
    refine K.end_ret (fun w _ => K.res_tmp rfl w) ?_
    exact K.gives_b rfl (run_l (by omega)).symm
  try replace ht10 := of_decide_eq_false ht10
  have hlen : hs.length = r.length := by omega
  refine K.skip ?_
  refine K.norm_then ?_
  refine K.seq ?_
  refine sr ?_
  refine qa ?_
  refine sn ?_
  refine K.block ?_
  refine K.loopW [5] [4, 11, 12, 13, 14, 15, 16, 17, 18, 19, 20, 21, 22] (fun vi L => ∃ i : Nat, vi = [.int .i64 (i : Int)] ∧ L = [] ∧ i ≤ hs.length ∧ ∀ j, j < i → 0 ≤ hs.getD j default ∧ hs.getD j default ≤ 9000) (fun vi => hs.length - (intOf (K.nth vi 0)).toNat) ?_ ?_
  · exact ⟨0, rfl, rfl, Nat.zero_le _, fun j hj => absurd hj (Nat.not_lt_zero j)⟩
  intro vi vr L hJ
  obtain ⟨i, rfl, rfl, hin, hall⟩ := hJ
  try dsimp only [setd, setn, ev, nth, over, cl, eI, eP, eT, eR, setM, setF, List.map, List.append, List.drop, List.take]
  refine K.seq ?_
  refine sr ?_
  iterate 2 refine qm ?_
  refine qp (K.len_sl sl_26 rfl) ?_
  refine qp (K.lss rfl rfl) ?_
  refine sn ?_
  refine K.cond rfl (fun ht14 => ?_) (fun ht14 => ?_)
  · try replace ht14 := of_decide_eq_true ht14
    have hi : i < hs.length := by omega
    refine K.skip ?_
    refine K.norm_then ?_
    refine K.seq ?_
    refine K.block ?_
    refine sr ?_
    iterate 2 refine qm ?_
    refine K.seq_ix (M := []) _ hH.sl sl_26 rfl rfl rfl (by omega) rfl ?_
    intro p19 hp19
    refine zN ?_
    refine K.seq_sil (K.load1 one_3 rfl (hp19.any)) rfl ?_
    refine zN ?_
    refine K.seq_call (K.call_g cal_49 (fun F w hF hw => c49 w)) rfl ?_
    refine zN ?_
    first | refine K.seq_pure (K.not_d rfl) rfl ?_ | refine K.seq_pure (K.not_ rfl) rfl ?_
    refine zN ?_
    refine sn ?_
    refine K.cond rfl (fun ht22 => ?_) (fun ht22 => ?_)
    · try replace ht22 := of_decide_eq_true ht22
      refine sr ?_
      refine qa ?_
      refine sn ?_
      refine K.ret ?_
      refine K.ret_block ?_
      refine K.ret_then ?_
      refine K.ret_then ?_
      refine K.ret_block ?_
      refine K.ret_then ?_
      refine K.end_ret (fun w _ => K.res_tmp rfl w) ?_
      exact K.gives_b rfl (run_b hi (by simpa using ht22)).symm
    try replace ht22 := of_decide_eq_false ht22
    refine K.skip ?_
    refine K.norm_block ?_
    refine K.norm_then ?_
    refine K.region_lit ?_
    refine qm ?_
    refine qp (K.add_i64 rfl rfl (by omega)) ?_
    refine qa ?_
    refine K.seq_nil ?_
    have hok : 0 ≤ hs.getD i default ∧ hs.getD i default ≤ 9000 := by simpa using ht22
    exact K.round_endW (L'' := []) [.int .i64 ((i : Int) + 1)] ⟨i + 1, rfl, rfl, by omega, K.lt_succ_case hall hok⟩ (by simp [K.nth, intOf]; omega) (List.nil_sublist _) (by kernel_rfl)
  try replace ht14 := of_decide_eq_false ht14
  refine K.exit ?_
  refine K.exit_then ?_
  refine K.exit_then ?_
  refine K.exit_here ?_
  refine K.norm_then ?_
  refine sr ?_
  iterate 2 refine qm ?_
  refine K.seq_loud (K.call_f cal_55 (fun F w hF hw => c55 (hR.pass hw) (hH.pass hw) hlen g (fun j hj => by have := hall j (by omega); omega))) rfl ?_
  rintro ⟨Q1, q1⟩ hq1
  refine zN ?_
  refine qp (K.len_sl sl_26 rfl) ?_
  refine qp (K.eql rfl rfl) ?_
  refine qa ?_
  refine sn ?_
  refine K.ret ?_
  refine K.end_ret (fun w _ => K.res_tmp rfl w) ?_
  exact K.gives_b rfl (run_s hlen (fun j hj => hall j (by omega)))

set_option maxRecDepth 100000 in
theorem c58 {r : List RvT} {A : Option Addr} {c : Nat} {H : Option Addr} {d : Nat} {hs : List Int} {w : World} (hR : K.Rd w A 4 eR r) (hH : K.Rd w H 1 K.eI hs) (hl : hs.length = r.length) (g : Good r) (hb : ∀ j, j < r.length → -100000 ≤ hs.getD j default ∧ hs.getD j default ≤ 100000) :
    Calls Tryd.prog 58 [.slice A r.length c, .slice H hs.length d].toArray w (K.RetS 3 1 K.eI (fillS r hs) w) := by
  have hgn := g.n
  refine K.enter (args := [.slice A r.length c, .slice H hs.length d]) Tryd.func58 rfl (n := 43) rfl ?_
  simp only [List.replicate, List.cons_append, List.nil_append]
  refine sr ?_
  refine qa ?_
  refine sn ?_
  refine sr ?_
  refine qa ?_
  refine sn ?_
  refine K.seq ?_
  refine sr ?_
  refine K.nil_row (e := 3) (size := 1) ?_
  refine qa ?_
  refine sn ?_
  refine K.block ?_
  refine K.loopW [5, 6] [7, 8, 9, 10, 11, 12, 13, 14, 15, 16, 17, 18, 19, 20, 21, 22, 23, 24, 25, 26, 27, 28, 29, 30, 31, 32, 33, 34, 35, 36, 37, 38, 39, 40, 41, 42, 43] (fun vi L => ∃ (i : Nat) (Q1 : Option Addr) (q1 : Nat), vi = [.slice Q1 ((List.range i).map fun i => fillF r hs i r.length).length q1, .int .i64 (i : Int)] ∧ L = [K.row (.slice Q1 ((List.range i).map fun i => fillF r hs i r.length).length q1) 3 1 ((List.range i).map fun i => fillF r hs i r.length).length (((List.range i).map fun i => fillF r hs i r.length).flatMap K.eI)] ∧ i ≤ r.length) (fun vi => r.length - (intOf (K.nth vi 1)).toNat) ?_ ?_
  · exact ⟨0, none, 0, rfl, rfl, Nat.zero_le _⟩
  intro vi vr L hJ
  obtain ⟨i, Q1, q1, rfl, rfl, hin⟩ := hJ
  try dsimp only [setd, setn, ev, nth, over, cl, eI, eP, eT, eR, setM, setF, List.map, List.append, List.drop, List.take]
  refine K.seq ?_
  refine sr ?_
  iterate 2 refine qm ?_
  refine qp (K.len_sl sl_22 rfl) ?_
  refine qp (K.lss rfl rfl) ?_
  refine sn ?_
  refine K.cond rfl (fun ht13 => ?_) (fun ht13 => ?_)
  · try replace ht13 := of_decide_eq_true ht13
    have hi : i < r.length := by omega
    have hsl : ((List.range i).map fun i => fillF r hs i r.length).length = i := map_l
    refine K.skip ?_
    refine K.norm_then ?_
    refine K.seq ?_
    refine K.block ?_
    refine sr ?_
    iterate 2 refine qm ?_
    refine K.seq_ix (M := []) _ hH.sl sl_26 rfl rfl rfl (by omega) rfl ?_
    intro p18 hp18
    refine zN ?_
    refine K.seq_sil (K.load1 one_3 rfl (hp18.any)) rfl ?_
    refine zN ?_
    refine qa ?_
    refine sn ?_
    refine K.seq ?_
    refine sr ?_
    refine qa ?_
    refine sn ?_
    refine K.block ?_
    refine K.loopW [7, 8] [9, 20, 21, 22, 23, 24, 25, 26, 27, 28, 29, 30, 31, 32, 33, 34, 35, 36, 37, 38, 39] (fun vi L => ∃ k : Nat, vi = [.int .i64 (fillF r hs i k), .int .i64 (k : Int)] ∧ L = [K.row (.slice Q1 ((List.range i).map fun i => fillF r hs i r.length).length q1) 3 1 ((List.range i).map fun i => fillF r hs i r.length).length (((List.range i).map fun i => fillF r hs i r.length).flatMap K.eI)] ∧ k ≤ r.length) (fun vi => r.length - (intOf (K.nth vi 1)).toNat) ?_ ?_
    · exact ⟨0, rfl, rfl, Nat.zero_le _⟩
    intro vi vr L hJ
    obtain ⟨k, rfl, rfl, hkn⟩ := hJ
    try dsimp only [setd, setn, ev, nth, over, cl, eI, eP, eT, eR, setM, setF, List.map, List.append, List.drop, List.take]
    refine K.seq ?_
    refine sr ?_
    iterate 2 refine qm ?_
    refine qp (K.len_sl sl_22 rfl) ?_
    refine qp (K.lss rfl rfl) ?_
    refine sn ?_
    refine K.cond rfl (fun ht23 => ?_) (fun ht23 => ?_)
    · try replace ht23 := of_decide_eq_true ht23
      have hk : k < r.length := by omega
      have hfb := fill_bd (k := k) g hl hi hb
      have hdb := drp_bd (k := k) g hi
      have hbk := hb k hk
      refine K.skip ?_
      refine K.norm_then ?_
      refine K.seq ?_
      refine K.block ?_
      refine sr ?_
      iterate 3 refine qm ?_
      refine K.seq_call (K.call_g cal_37 (fun F w hF hw => c37 (hR.pass hw) g hi)) rfl ?_
      refine zN ?_
      refine qa ?_
      refine sn ?_
      refine sr ?_
      refine qm ?_
      refine qp (K.geq rfl rfl) ?_
      refine sn ?_
      refine K.cond rfl (fun ht31 => ?_) (fun ht31 => ?_)
      · try replace ht31 := of_decide_eq_true ht31
        refine K.region_lit ?_
        iterate 3 refine qm ?_
        refine K.seq_ix (M := []) _ hH.sl sl_26 rfl rfl rfl (by omega) rfl ?_
        intro p35 hp35
        refine zN ?_
        refine K.seq_sil (K.load1 one_3 rfl (hp35.any)) rfl ?_
        refine zN ?_
        refine qm ?_
        refine qp (K.add_i64 rfl rfl (by omega)) ?_
        refine qp (K.max_int rfl rfl) ?_
        refine qa ?_
        refine K.seq_nil ?_
        refine K.norm_block ?_
        refine K.norm_then ?_
        refine K.region_lit ?_
        refine qm ?_
        refine qp (K.add_i64 rfl rfl (by omega)) ?_
        refine qa ?_
        refine K.seq_nil ?_
        have hfs : (fillF r hs i (k + 1)) = max (fillF r hs i k) (hs.getD k default + drp r i k) := by rw [fill_s, if_pos (by omega)]
        exact K.round_endW (L'' := [K.row (.slice Q1 ((List.range i).map fun i => fillF r hs i r.length).length q1) 3 1 ((List.range i).map fun i => fillF r hs i r.length).length (((List.range i).map fun i => fillF r hs i r.length).flatMap K.eI)]) [.int .i64 (max (fillF r hs i k) (hs.getD k default + drp r i k)), .int .i64 ((k : Int) + 1)] ⟨k + 1, by rw [hfs]; rfl, rfl, by omega⟩ (by simp [K.nth, intOf]; omega) (List.Sublist.refl _) (by kernel_rfl)
      try replace ht31 := of_decide_eq_false ht31
      refine K.skip ?_
      refine K.norm_block ?_
      refine K.norm_then ?_
      refine K.region_lit ?_
      refine qm ?_
      refine qp (K.add_i64 rfl rfl (by omega)) ?_
      refine qa ?_
      refine K.seq_nil ?_
      have hfs : (fillF r hs i (k + 1)) = (fillF r hs i k) := by rw [fill_s, if_neg (by omega)]
      exact K.round_endW (L'' := [K.row (.slice Q1 ((List.range i).map fun i => fillF r hs i r.length).length q1) 3 1 ((List.range i).map fun i => fillF r hs i r.length).length (((List.range i).map fun i => fillF r hs i r.length).flatMap K.eI)]) [.int .i64 (fillF r hs i k), .int .i64 ((k : Int) + 1)] ⟨k + 1, by rw [hfs]; rfl, rfl, by omega⟩ (by simp [K.nth, intOf]; omega) (List.Sublist.refl _) (by kernel_rfl)
    try replace ht23 := of_decide_eq_false ht23
    have hkr : k = r.length := by omega
    subst hkr
    refine K.exit ?_
    refine K.exit_then ?_
    refine K.exit_then ?_
    refine K.exit_here ?_
    refine K.norm_then ?_
    refine K.region_lit ?_
    iterate 2 refine qm ?_
    refine K.seq_new (K.buildSlice (bs1 _)) rfl ?_
    intro b42
    refine zN ?_
    refine K.seq_upd (K.append el_26 rfl rfl (K.PtrL.own' (K.m0)) rfl rfl (by decide) (by omega) (by omega) (fun _ _ => K.rp1)) rfl ?_
    rintro ⟨g43, c43⟩ _
    refine zN ?_
    refine qa ?_
    refine K.seq_nil ?_
    refine K.norm_block ?_
    refine K.norm_then ?_
    refine K.region_lit ?_
    refine qm ?_
    refine qp (K.add_i64 rfl rfl (by omega)) ?_
    refine qa ?_
    refine K.seq_nil ?_
    have hsn : ((List.range (i + 1)).map fun i => fillF r hs i r.length) = ((List.range i).map fun i => fillF r hs i r.length) ++ [(fillF r hs i r.length)] := map_s
    exact K.round_endW (L'' := [K.row (.slice (some ⟨g43, 0, none⟩) (((List.range i).map fun i => fillF r hs i r.length).length + 1) c43) 3 1 (((List.range i).map fun i => fillF r hs i r.length).length + 1) (((List.range i).map fun i => fillF r hs i r.length).flatMap K.eI ++ [.int .i64 (fillF r hs i r.length)])]) [.slice (some ⟨g43, 0, none⟩) (((List.range i).map fun i => fillF r hs i r.length).length + 1) c43, .int .i64 ((i : Int) + 1)] ⟨i + 1, some ⟨g43, 0, none⟩, c43, by rw [hsn, List.length_append]; rfl, by rw [hsn, List.length_append, List.flatMap_append]; rfl, by omega⟩ (by simp [K.nth, intOf]; omega) (List.Sublist.cons _ (List.Sublist.refl _)) (by kernel_rfl)
  try replace ht13 := of_decide_eq_false ht13
  refine K.exit ?_
  refine K.exit_then ?_
  refine K.exit_then ?_
  refine K.exit_here ?_
  refine K.norm_then ?_
  refine sr ?_
  refine qm ?_
  refine qa ?_
  refine sn ?_
  refine K.ret ?_
  refine K.end_ret (fun w _ => K.res_tmp rfl w) ?_
  have e0 : i = r.length := by omega
  subst e0
  exact K.rets_s K.m0 rfl rfl rfl

set_option maxRecDepth 100000 in
theorem c59 {r : List RvT} {A : Option Addr} {c : Nat} {H : Option Addr} {d : Nat} {hs : List Int} {w : World} (hR : K.Rd w A 4 eR r) (hH : K.Rd w H 1 K.eI hs) (hl : hs.length = r.length) (g : Good r) (hb : ∀ j, j < r.length → -100000 ≤ hs.getD j default ∧ hs.getD j default ≤ 100000) :
    Calls Tryd.prog 59 [.slice A r.length c, .slice H hs.length d].toArray w (K.RetS 3 1 K.eI (carveS r hs) w) := by
  have hgn := g.n
  refine K.enter (args := [.slice A r.length c, .slice H hs.length d]) Tryd.func59 rfl (n := 43) rfl ?_
  simp only [List.replicate, List.cons_append, List.nil_append]
  refine sr ?_
  refine qa ?_
  refine sn ?_
  refine sr ?_
  refine qa ?_
  refine sn ?_
  refine K.seq ?_
  refine sr ?_
  refine K.nil_row (e := 3) (size := 1) ?_
  refine qa ?_
  refine sn ?_
  refine K.block ?_
  refine K.loopW [5, 6] [7, 8, 9, 10, 11, 12, 13, 14, 15, 16, 17, 18, 19, 20, 21, 22, 23, 24, 25, 26, 27, 28, 29, 30, 31, 32, 33, 34, 35, 36, 37, 38, 39, 40, 41, 42, 43] (fun vi L => ∃ (i : Nat) (Q1 : Option Addr) (q1 : Nat), vi = [.slice Q1 ((List.range i).map fun i => carveF r hs i r.length).length q1, .int .i64 (i : Int)] ∧ L = [K.row (.slice Q1 ((List.range i).map fun i => carveF r hs i r.length).length q1) 3 1 ((List.range i).map fun i => carveF r hs i r.length).length (((List.range i).map fun i => carveF r hs i r.length).flatMap K.eI)] ∧ i ≤ r.length) (fun vi => r.length - (intOf (K.nth vi 1)).toNat) ?_ ?_
  · exact ⟨0, none, 0, rfl, rfl, Nat.zero_le _⟩
  intro vi vr L hJ
  obtain ⟨i, Q1, q1, rfl, rfl, hin⟩ := hJ
  try dsimp only [setd, setn, ev, nth, over, cl, eI, eP, eT, eR, setM, setF, List.map, List.append, List.drop, List.take]
  refine K.seq ?_
  refine sr ?_
  iterate 2 refine qm ?_
  refine qp (K.len_sl sl_22 rfl) ?_
  refine qp (K.lss rfl rfl) ?_
  refine sn ?_
  refine K.cond rfl (fun ht13 => ?_) (fun ht13 => ?_)
  · try replace ht13 := of_decide_eq_true ht13
    have hi : i < r.length := by omega
    have hsl : ((List.range i).map fun i => carveF r hs i r.length).length = i := map_l
    refine K.skip ?_
    refine K.norm_then ?_
    refine K.seq ?_
    refine K.block ?_
    refine sr ?_
    iterate 2 refine qm ?_
    refine K.seq_ix (M := []) _ hH.sl sl_26 rfl rfl rfl (by omega) rfl ?_
    intro p18 hp18
    refine zN ?_
    refine K.seq_sil (K.load1 one_3 rfl (hp18.any)) rfl ?_
    refine zN ?_
    refine qa ?_
    refine sn ?_
    refine K.seq ?_
    refine sr ?_
    refine qa ?_
    refine sn ?_
    refine K.block ?_
    refine K.loopW [7, 8] [9, 20, 21, 22, 23, 24, 25, 26, 27, 28, 29, 30, 31, 32, 33, 34, 35, 36, 37, 38, 39] (fun vi L => ∃ k : Nat, vi = [.int .i64 (carveF r hs i k), .int .i64 (k : Int)] ∧ L = [K.row (.slice Q1 ((List.range i).map fun i => carveF r hs i r.length).length q1) 3 1 ((List.range i).map fun i => carveF r hs i r.length).length (((List.range i).map fun i => carveF r hs i r.length).flatMap K.eI)] ∧ k ≤ r.length) (fun vi => r.length - (intOf (K.nth vi 1)).toNat) ?_ ?_
    · exact ⟨0, rfl, rfl, Nat.zero_le _⟩
    intro vi vr L hJ
    obtain ⟨k, rfl, rfl, hkn⟩ := hJ
    try dsimp only [setd, setn, ev, nth, over, cl, eI, eP, eT, eR, setM, setF, List.map, List.append, List.drop, List.take]
    refine K.seq ?_
    refine sr ?_
    iterate 2 refine qm ?_
    refine qp (K.len_sl sl_22 rfl) ?_
    refine qp (K.lss rfl rfl) ?_
    refine sn ?_
    refine K.cond rfl (fun ht23 => ?_) (fun ht23 => ?_)
    · try replace ht23 := of_decide_eq_true ht23
      have hk : k < r.length := by omega
      have hfb := carve_bd g hl hi hb hkn
      have hdb := drp_bd (k := i) g hk
      have hbk := hb k hk
      refine K.skip ?_
      refine K.norm_then ?_
      refine K.seq ?_
      refine K.block ?_
      refine sr ?_
      iterate 3 refine qm ?_
      refine K.seq_call (K.call_g cal_37 (fun F w hF hw => c37 (hR.pass hw) g hk)) rfl ?_
      refine zN ?_
      refine qa ?_
      refine sn ?_
      refine sr ?_
      refine qm ?_
      refine qp (K.geq rfl rfl) ?_
      refine sn ?_
      refine K.cond rfl (fun ht31 => ?_) (fun ht31 => ?_)
      · try replace ht31 := of_decide_eq_true ht31
        refine K.region_lit ?_
        iterate 3 refine qm ?_
        refine K.seq_ix (M := []) _ hH.sl sl_26 rfl rfl rfl (by omega) rfl ?_
        intro p35 hp35
        refine zN ?_
        refine K.seq_sil (K.load1 one_3 rfl (hp35.any)) rfl ?_
        refine zN ?_
        refine qm ?_
        refine qp (K.sub_i64 rfl rfl (by omega)) ?_
        refine qp (K.min_int rfl rfl) ?_
        refine qa ?_
        refine K.seq_nil ?_
        refine K.norm_block ?_
        refine K.norm_then ?_
        refine K.region_lit ?_
        refine qm ?_
        refine qp (K.add_i64 rfl rfl (by omega)) ?_
        refine qa ?_
        refine K.seq_nil ?_
        have hfs : (carveF r hs i (k + 1)) = min (carveF r hs i k) (hs.getD k default - drp r k i) := by rw [carve_s, if_pos (by omega)]
        exact K.round_endW (L'' := [K.row (.slice Q1 ((List.range i).map fun i => carveF r hs i r.length).length q1) 3 1 ((List.range i).map fun i => carveF r hs i r.length).length (((List.range i).map fun i => carveF r hs i r.length).flatMap K.eI)]) [.int .i64 (min (carveF r hs i k) (hs.getD k default - drp r k i)), .int .i64 ((k : Int) + 1)] ⟨k + 1, by rw [hfs]; rfl, rfl, by omega⟩ (by simp [K.nth, intOf]; omega) (List.Sublist.refl _) (by kernel_rfl)
      try replace ht31 := of_decide_eq_false ht31
      refine K.skip ?_
      refine K.norm_block ?_
      refine K.norm_then ?_
      refine K.region_lit ?_
      refine qm ?_
      refine qp (K.add_i64 rfl rfl (by omega)) ?_
      refine qa ?_
      refine K.seq_nil ?_
      have hfs : (carveF r hs i (k + 1)) = (carveF r hs i k) := by rw [carve_s, if_neg (by omega)]
      exact K.round_endW (L'' := [K.row (.slice Q1 ((List.range i).map fun i => carveF r hs i r.length).length q1) 3 1 ((List.range i).map fun i => carveF r hs i r.length).length (((List.range i).map fun i => carveF r hs i r.length).flatMap K.eI)]) [.int .i64 (carveF r hs i k), .int .i64 ((k : Int) + 1)] ⟨k + 1, by rw [hfs]; rfl, rfl, by omega⟩ (by simp [K.nth, intOf]; omega) (List.Sublist.refl _) (by kernel_rfl)
    try replace ht23 := of_decide_eq_false ht23
    have hkr : k = r.length := by omega
    subst hkr
    refine K.exit ?_
    refine K.exit_then ?_
    refine K.exit_then ?_
    refine K.exit_here ?_
    refine K.norm_then ?_
    refine K.region_lit ?_
    iterate 2 refine qm ?_
    refine K.seq_new (K.buildSlice (bs1 _)) rfl ?_
    intro b42
    refine zN ?_
    refine K.seq_upd (K.append el_26 rfl rfl (K.PtrL.own' (K.m0)) rfl rfl (by decide) (by omega) (by omega) (fun _ _ => K.rp1)) rfl ?_
    rintro ⟨g43, c43⟩ _
    refine zN ?_
    refine qa ?_
    refine K.seq_nil ?_
    refine K.norm_block ?_
    refine K.norm_then ?_
    refine K.region_lit ?_
    refine qm ?_
    refine qp (K.add_i64 rfl rfl (by omega)) ?_
    refine qa ?_
    refine K.seq_nil ?_
    have hsn : ((List.range (i + 1)).map fun i => carveF r hs i r.length) = ((List.range i).map fun i => carveF r hs i r.length) ++ [(carveF r hs i r.length)] := map_s
    exact K.round_endW (L'' := [K.row (.slice (some ⟨g43, 0, none⟩) (((List.range i).map fun i => carveF r hs i r.length).length + 1) c43) 3 1 (((List.range i).map fun i => carveF r hs i r.length).length + 1) (((List.range i).map fun i => carveF r hs i r.length).flatMap K.eI ++ [.int .i64 (carveF r hs i r.length)])]) [.slice (some ⟨g43, 0, none⟩) (((List.range i).map fun i => carveF r hs i r.length).length + 1) c43, .int .i64 ((i : Int) + 1)] ⟨i + 1, some ⟨g43, 0, none⟩, c43, by rw [hsn, List.length_append]; rfl, by rw [hsn, List.length_append, List.flatMap_append]; rfl, by omega⟩ (by simp [K.nth, intOf]; omega) (List.Sublist.cons _ (List.Sublist.refl _)) (by kernel_rfl)
  try replace ht13 := of_decide_eq_false ht13
  refine K.exit ?_
  refine K.exit_then ?_
  refine K.exit_then ?_
  refine K.exit_here ?_
  refine K.norm_then ?_
  refine sr ?_
  refine qm ?_
  refine qa ?_
  refine sn ?_
  refine K.ret ?_
  refine K.end_ret (fun w _ => K.res_tmp rfl w) ?_
  have e0 : i = r.length := by omega
  subst e0
  exact K.rets_s K.m0 rfl rfl rfl

set_option maxRecDepth 100000 in
theorem e17 {r : List RvT} {A : Option Addr} {c : Nat} {w : World} (hR : K.Rd w A 4 eR r) (hn : r.length ≤ 4611686018427387904) (hc : (chk r).2.2 ≠ 0) :
    Calls Tryd.prog 17 [.slice A r.length c].toArray w (K.RetSE 3 1 K.eI (badL r) (chk r).2.2 w) := by
  refine K.enter (args := [.slice A r.length c]) Tryd.func17 rfl (n := 19) rfl ?_
  simp only [List.replicate, List.cons_append, List.nil_append]
  refine sr ?_
  iterate 2 refine qa ?_
  refine sn ?_
  refine sr ?_
  refine qm ?_
  refine K.seq_call (K.call_g cal_15 (fun F w hF hw => c15 (hR.pass hw) hn)) rfl ?_
  refine zN ?_
  refine qm ?_
  refine qx ?_
  refine qx ?_
  refine qx ?_
  iterate 3 refine qa ?_
  refine sn ?_
  refine K.seq ?_
  refine sr ?_
  refine qm ?_
  refine qp (K.neq rfl rfl) ?_
  refine sn ?_
  refine K.cond_true (by exact congrArg Value.bool (decide_eq_true hc)) ?_
  refine sr ?_
  refine qm ?_
  iterate 2 refine qa ?_
  refine sn ?_
  refine K.ret ?_
  refine K.ret_then ?_
  refine K.end_ret (fun w _ => K.res_tmp2 rfl w) ?_
  exact K.rets_se0 (by unfold badL; rw [if_pos hc]) rfl rfl

set_option maxRecDepth 100000 in
theorem g17 {r : List RvT} {A : Option Addr} {c : Nat} {w : World} (hR : K.Rd w A 4 eR r) (hn : r.length ≤ 4611686018427387904) (hc : (chk r).2.2 = 0) :
    Calls Tryd.prog 17 [.slice A r.length c].toArray w (K.RetSE 3 1 K.eI (badL r) (chk r).2.2 w) := by
  have g : Good r := chk_good hc
  have hgn := g.n
  refine K.enter (args := [.slice A r.length c]) Tryd.func17 rfl (n := 19) rfl ?_
  simp only [List.replicate, List.cons_append, List.nil_append]
  refine sr ?_
  iterate 2 refine qa ?_
  refine sn ?_
  refine sr ?_
  refine qm ?_
  refine K.seq_call (K.call_g cal_15 (fun F w hF hw => c15 (hR.pass hw) hn)) rfl ?_
  refine zN ?_
  refine qm ?_
  refine qx ?_
  refine qx ?_
  refine qx ?_
  iterate 3 refine qa ?_
  refine sn ?_
  refine K.seq ?_
  refine sr ?_
  refine qm ?_
  refine qp (K.neq rfl rfl) ?_
  refine sn ?_
  refine K.cond_false (by exact congrArg Value.bool (decide_eq_false (by omega))) ?_
  refine K.skip ?_
  refine K.norm_then ?_
  refine sr ?_
  iterate 2 refine qm ?_
  refine K.seq_loud (K.call_f cal_56 (fun F w hF hw => c56 (hR.pass hw) (by omega))) rfl ?_
  rintro ⟨Q1, q1⟩ hq1
  refine zN ?_
  refine K.seq_loud (K.call_f cal_55 (fun F w hF hw => (by have hH := (K.Rd.own (e := K.eI) (xs := (ownS r)) hw (hF _ (K.m0)) hq1 (fun _ => rfl) (by decide)); exact c55 (hR.pass hw) hH own_len g (fun j hj => by have := own_bd g hj; omega)))) rfl ?_
  rintro ⟨Q2, q2⟩ hq2
  refine zN ?_
  iterate 2 refine qa ?_
  refine sn ?_
  refine K.ret ?_
  refine K.end_ret (fun w _ => K.res_tmp2 rfl w) ?_
  have hl : badL r = badS r (ownS r) := by unfold badL; rw [if_neg (by omega)]
  rw [hl, hc]
  exact K.rets_se K.m0 rfl rfl rfl rfl

theorem c17 {r : List RvT} {A : Option Addr} {c : Nat} {w : World} (hR : K.Rd w A 4 eR r) (hn : r.length ≤ 4611686018427387904) : Calls Tryd.prog 17 [.slice A r.length c].toArray w (K.RetSE 3 1 K.eI (badL r) (chk r).2.2 w) := by
  by_cases hc : (chk r).2.2 = 0
  · exact g17 hR hn hc
  · exact e17 hR hn hc


set_option maxRecDepth 100000 in
theorem e22 {r : List RvT} {A : Option Addr} {c : Nat} {w : World} (hR : K.Rd w A 4 eR r) (hn : r.length ≤ 4611686018427387904) (hc : (chk r).2.2 ≠ 0) :
    Calls Tryd.prog 22 [.slice A r.length c].toArray w (K.RetSE 3 1 K.eI (fillL r) (fillE r) w) := by
  have he : fillE r = (chk r).2.2 := by unfold fillE; rw [if_pos hc]
  refine K.enter (args := [.slice A r.length c]) Tryd.func22 rfl (n := 25) rfl ?_
  simp only [List.replicate, List.cons_append, List.nil_append]
  refine sr ?_
  iterate 2 refine qa ?_
  refine sn ?_
  refine sr ?_
  refine qm ?_
  refine K.seq_call (K.call_g cal_15 (fun F w hF hw => c15 (hR.pass hw) hn)) rfl ?_
  refine zN ?_
  refine qm ?_
  refine qx ?_
  refine qx ?_
  refine qx ?_
  iterate 3 refine qa ?_
  refine sn ?_
  refine K.seq ?_
  refine sr ?_
  refine qm ?_
  refine qp (K.neq rfl rfl) ?_
  refine sn ?_
  refine K.cond_true (by exact congrArg Value.bool (decide_eq_true hc)) ?_
  refine sr ?_
  refine qm ?_
  iterate 2 refine qa ?_
  refine sn ?_
  refine K.ret ?_
  refine K.ret_then ?_
  refine K.end_ret (fun w _ => K.res_tmp2 rfl w) ?_
  exact K.rets_se0 (by unfold fillL; rw [if_neg (by omega)]) he.symm rfl

set_option maxRecDepth 100000 in
theorem g22 {r : List RvT} {A : Option Addr} {c : Nat} {w : World} (hR : K.Rd w A 4 eR r) (hn : r.length ≤ 4611686018427387904) (hc : (chk r).2.2 = 0) :
    Calls Tryd.prog 22 [.slice A r.length c].toArray w (K.RetSE 3 1 K.eI (fillL r) (fillE r) w) := by
  have g : Good r := chk_good hc
  have hgn := g.n
  have hsl := fill_len (r := r) (h := ownS r)
  refine K.enter (args := [.slice A r.length c]) Tryd.func22 rfl (n := 25) rfl ?_
  simp only [List.replicate, List.cons_append, List.nil_append]
  refine sr ?_
  iterate 2 refine qa ?_
  refine sn ?_
  refine sr ?_
  refine qm ?_
  refine K.seq_call (K.call_g cal_15 (fun F w hF hw => c15 (hR.pass hw) hn)) rfl ?_
  refine zN ?_
  refine qm ?_
  refine qx ?_
  refine qx ?_
  refine qx ?_
  iterate 3 refine qa ?_
  refine sn ?_
  refine K.seq ?_
  refine sr ?_
  refine qm ?_
  refine qp (K.neq rfl rfl) ?_
  refine sn ?_
  refine K.cond_false (by exact congrArg Value.bool (decide_eq_false (by omega))) ?_
  refine K.skip ?_
  refine K.norm_then ?_
  refine sr ?_
  iterate 2 refine qm ?_
  refine K.seq_loud (K.call_f cal_56 (fun F w hF hw => c56 (hR.pass hw) (by omega))) rfl ?_
  rintro ⟨Q1, q1⟩ hq1
  refine zN ?_
  refine K.seq_loud (K.call_f cal_58 (fun F w hF hw => (by have hH := (K.Rd.own (e := K.eI) (xs := (ownS r)) hw (hF _ (K.m0)) hq1 (fun _ => rfl) (by decide)); exact c58 (hR.pass hw) hH own_len g (fun j hj => by have := own_bd g hj; omega)))) rfl ?_
  rintro ⟨Q2, q2⟩ hq2
  refine zN ?_
  refine qa ?_
  refine sn ?_
  refine K.seq ?_
  refine sr ?_
  iterate 2 refine qm ?_
  refine K.seq_call (K.call_g cal_39 (fun F w hF hw => (by have hH := (K.Rd.own (e := K.eI) (xs := (fillS r (ownS r))) hw (hF _ (K.m0)) hq2 (fun _ => rfl) (by decide)); exact c39 (hR.pass hw) hH g (by omega)))) rfl ?_
  refine zN ?_
  first | refine K.seq_pure (K.not_d rfl) rfl ?_ | refine K.seq_pure (K.not_ rfl) rfl ?_
  refine zN ?_
  refine sn ?_
  refine K.cond rfl (fun ht24 => ?_) (fun ht24 => ?_)
  · try replace ht24 := of_decide_eq_true ht24
    refine sr ?_
    iterate 2 refine qa ?_
    refine sn ?_
    refine K.ret ?_
    refine K.ret_then ?_
    refine K.end_ret (fun w _ => K.res_tmp2 rfl w) ?_
    have hf : runB r (fillS r (ownS r)) = false := by simpa using ht24
    have he : fillE r = 9 := by unfold fillE; rw [if_neg (by omega), hf]; rfl
    exact K.rets_se0 (by unfold fillL; rw [if_neg (by omega)]) he.symm rfl
  try replace ht24 := of_decide_eq_false ht24
  refine K.skip ?_
  refine K.norm_then ?_
  refine sr ?_
  refine qm ?_
  iterate 2 refine qa ?_
  refine sn ?_
  refine K.ret ?_
  refine K.end_ret (fun w _ => K.res_tmp2 rfl w) ?_
  have hf : runB r (fillS r (ownS r)) = true := by simpa using ht24
  have he : fillE r = 0 := by unfold fillE; rw [if_neg (by omega), if_pos hf]
  have hl : fillL r = (fillS r (ownS r)) := by unfold fillL; rw [if_pos he]
  rw [hl, he]
  exact K.rets_se K.m0 rfl rfl rfl rfl

theorem c22 {r : List RvT} {A : Option Addr} {c : Nat} {w : World} (hR : K.Rd w A 4 eR r) (hn : r.length ≤ 4611686018427387904) : Calls Tryd.prog 22 [.slice A r.length c].toArray w (K.RetSE 3 1 K.eI (fillL r) (fillE r) w) := by
  by_cases hc : (chk r).2.2 = 0
  · exact g22 hR hn hc
  · exact e22 hR hn hc


set_option maxRecDepth 100000 in
theorem e24 {r : List RvT} {A : Option Addr} {c : Nat} {w : World} (hR : K.Rd w A 4 eR r) (hn : r.length ≤ 4611686018427387904) (hc : (chk r).2.2 ≠ 0) :
    Calls Tryd.prog 24 [.slice A r.length c].toArray w (K.RetSE 3 1 K.eI (carveL r) (carveE r) w) := by
  have he : carveE r = (chk r).2.2 := by unfold carveE; rw [if_pos hc]
  refine K.enter (args := [.slice A r.length c]) Tryd.func24 rfl (n := 25) rfl ?_
  simp only [List.replicate, List.cons_append, List.nil_append]
  refine sr ?_
  iterate 2 refine qa ?_
  refine sn ?_
  refine sr ?_
  refine qm ?_
  refine K.seq_call (K.call_g cal_15 (fun F w hF hw => c15 (hR.pass hw) hn)) rfl ?_
  refine zN ?_
  refine qm ?_
  refine qx ?_
  refine qx ?_
  refine qx ?_
  iterate 3 refine qa ?_
  refine sn ?_
  refine K.seq ?_
  refine sr ?_
  refine qm ?_
  refine qp (K.neq rfl rfl) ?_
  refine sn ?_
  refine K.cond_true (by exact congrArg Value.bool (decide_eq_true hc)) ?_
  refine sr ?_
  refine qm ?_
  iterate 2 refine qa ?_
  refine sn ?_
  refine K.ret ?_
  refine K.ret_then ?_
  refine K.end_ret (fun w _ => K.res_tmp2 rfl w) ?_
  exact K.rets_se0 (by unfold carveL; rw [if_neg (by omega)]) he.symm rfl

set_option maxRecDepth 100000 in
theorem g24 {r : List RvT} {A : Option Addr} {c : Nat} {w : World} (hR : K.Rd w A 4 eR r) (hn : r.length ≤ 4611686018427387904) (hc : (chk r).2.2 = 0) :
    Calls Tryd.prog 24 [.slice A r.length c].toArray w (K.RetSE 3 1 K.eI (carveL r) (carveE r) w) := by
  have g : Good r := chk_good hc
  have hgn := g.n
  have hsl := carve_len (r := r) (h := ownS r)
  refine K.enter (args := [.slice A r.length c]) Tryd.func24 rfl (n := 25) rfl ?_
  simp only [List.replicate, List.cons_append, List.nil_append]
  refine sr ?_
  iterate 2 refine qa ?_
  refine sn ?_
  refine sr ?_
  refine qm ?_
  refine K.seq_call (K.call_g cal_15 (fun F w hF hw => c15 (hR.pass hw) hn)) rfl ?_
  refine zN ?_
  refine qm ?_
  refine qx ?_
  refine qx ?_
  refine qx ?_
  iterate 3 refine qa ?_
  refine sn ?_
  refine K.seq ?_
  refine sr ?_
  refine qm ?_
  refine qp (K.neq rfl rfl) ?_
  refine sn ?_
  refine K.cond_false (by exact congrArg Value.bool (decide_eq_false (by omega))) ?_
  refine K.skip ?_
  refine K.norm_then ?_
  refine sr ?_
  iterate 2 refine qm ?_
  refine K.seq_loud (K.call_f cal_56 (fun F w hF hw => c56 (hR.pass hw) (by omega))) rfl ?_
  rintro ⟨Q1, q1⟩ hq1
  refine zN ?_
  refine K.seq_loud (K.call_f cal_59 (fun F w hF hw => (by have hH := (K.Rd.own (e := K.eI) (xs := (ownS r)) hw (hF _ (K.m0)) hq1 (fun _ => rfl) (by decide)); exact c59 (hR.pass hw) hH own_len g (fun j hj => by have := own_bd g hj; omega)))) rfl ?_
  rintro ⟨Q2, q2⟩ hq2
  refine zN ?_
  refine qa ?_
  refine sn ?_
  refine K.seq ?_
  refine sr ?_
  iterate 2 refine qm ?_
  refine K.seq_call (K.call_g cal_39 (fun F w hF hw => (by have hH := (K.Rd.own (e := K.eI) (xs := (carveS r (ownS r))) hw (hF _ (K.m0)) hq2 (fun _ => rfl) (by decide)); exact c39 (hR.pass hw) hH g (by omega)))) rfl ?_
  refine zN ?_
  first | refine K.seq_pure (K.not_d rfl) rfl ?_ | refine K.seq_pure (K.not_ rfl) rfl ?_
  refine zN ?_
  refine sn ?_
  refine K.cond rfl (fun ht24 => ?_) (fun ht24 => ?_)
  · try replace ht24 := of_decide_eq_true ht24
    refine sr ?_
    iterate 2 refine qa ?_
    refine sn ?_
    refine K.ret ?_
    refine K.ret_then ?_
    refine K.end_ret (fun w _ => K.res_tmp2 rfl w) ?_
    have hf : runB r (carveS r (ownS r)) = false := by simpa using ht24
    have he : carveE r = 9 := by unfold carveE; rw [if_neg (by omega), hf]; rfl
    exact K.rets_se0 (by unfold carveL; rw [if_neg (by omega)]) he.symm rfl
  try replace ht24 := of_decide_eq_false ht24
  refine K.skip ?_
  refine K.norm_then ?_
  refine sr ?_
  refine qm ?_
  iterate 2 refine qa ?_
  refine sn ?_
  refine K.ret ?_
  refine K.end_ret (fun w _ => K.res_tmp2 rfl w) ?_
  have hf : runB r (carveS r (ownS r)) = true := by simpa using ht24
  have he : carveE r = 0 := by unfold carveE; rw [if_neg (by omega), if_pos hf]
  have hl : carveL r = (carveS r (ownS r)) := by unfold carveL; rw [if_pos he]
  rw [hl, he]
  exact K.rets_se K.m0 rfl rfl rfl rfl

theorem c24 {r : List RvT} {A : Option Addr} {c : Nat} {w : World} (hR : K.Rd w A 4 eR r) (hn : r.length ≤ 4611686018427387904) : Calls Tryd.prog 24 [.slice A r.length c].toArray w (K.RetSE 3 1 K.eI (carveL r) (carveE r) w) := by
  by_cases hc : (chk r).2.2 = 0
  · exact g24 hR hn hc
  · exact e24 hR hn hc


set_option maxRecDepth 100000 in
theorem e20 {r : List RvT} {A : Option Addr} {c : Nat} {z : Int} {w : World} (hR : K.Rd w A 4 eR r) (hn : r.length ≤ 4611686018427387904) (hc : (chk r).2.2 ≠ 0) :
    Calls Tryd.prog 20 [.slice A r.length c, .int .i64 z].toArray w (K.RetSE 3 1 K.eI (pouL r z) (pouE r z) w) := by
  have he : pouE r z = (chk r).2.2 := by unfold pouE; rw [if_pos hc]
  refine K.enter (args := [.slice A r.length c, .int .i64 z]) Tryd.func20 rfl (n := 49) rfl ?_
  simp only [List.replicate, List.cons_append, List.nil_append]
  refine sr ?_
  iterate 2 refine qa ?_
  refine sn ?_
  refine sr ?_
  refine qm ?_
  refine K.seq_loud (K.call_f cal_17 (fun F w hF hw => c17 (hR.pass hw) hn)) rfl ?_
  rintro ⟨Q1, q1⟩ hq1
  refine zN ?_
  refine qm ?_
  refine qx ?_
  refine qx ?_
  iterate 2 refine qa ?_
  refine sn ?_
  refine K.seq ?_
  refine sr ?_
  refine qm ?_
  refine qp (K.Pure.eq (K.eql rfl rfl) (show _ = Value.bool false from congrArg Value.bool (decide_eq_false hc))) ?_
  refine qm ?_
  iterate 6 refine qs ?_
  refine qp (K.pick_f rfl) ?_
  refine sn ?_
  refine K.cond_false rfl ?_
  refine K.skip ?_
  refine K.norm_then ?_
  refine K.seq ?_
  refine sr ?_
  refine qm ?_
  refine qp (K.Pure.eq (K.neq rfl rfl) (show _ = Value.bool true from congrArg Value.bool (decide_eq_true hc))) ?_
  refine sn ?_
  refine K.cond_true rfl ?_
  refine sr ?_
  refine qm ?_
  iterate 2 refine qa ?_
  refine sn ?_
  refine K.ret ?_
  refine K.ret_then ?_
  refine K.end_ret (fun w _ => K.res_tmp2 rfl w) ?_
  exact K.rets_se0 (by unfold pouL; rw [if_neg (by omega)]) he.symm rfl

set_option maxRecDepth 100000 in
theorem f20 {r : List RvT} {A : Option Addr} {c : Nat} {z : Int} {w : World} (hR : K.Rd w A 4 eR r) (hn : r.length ≤ 4611686018427387904) (hc : (chk r).2.2 = 0) (hz : ¬ (0 ≤ z ∧ z ≤ (r.length : Int) - 1)) :
    Calls Tryd.prog 20 [.slice A r.length c, .int .i64 z].toArray w (K.RetSE 3 1 K.eI (pouL r z) (pouE r z) w) := by
  have g : Good r := chk_good hc
  have hgn := g.n
  have he : pouE r z = 4 := by unfold pouE; rw [if_neg (by omega), if_neg hz]
  have hbl : badL r = badS r (ownS r) := by unfold badL; rw [if_neg (by omega)]
  refine K.enter (args := [.slice A r.length c, .int .i64 z]) Tryd.func20 rfl (n := 49) rfl ?_
  simp only [List.replicate, List.cons_append, List.nil_append]
  refine sr ?_
  iterate 2 refine qa ?_
  refine sn ?_
  refine sr ?_
  refine qm ?_
  refine K.seq_loud (K.call_f cal_17 (fun F w hF hw => (by have hg := g17 (c := c) (hR.pass hw) hn hc; rw [hbl, hc] at hg; exact hg))) rfl ?_
  rintro ⟨Q1, q1⟩ hq1
  refine zN ?_
  refine qm ?_
  refine qx ?_
  refine qx ?_
  iterate 2 refine qa ?_
  refine sn ?_
  refine K.seq ?_
  refine sr ?_
  refine qm ?_
  refine qp (K.Pure.eq (K.eql rfl rfl) (show _ = Value.bool true from congrArg Value.bool (rfl))) ?_
  iterate 3 refine qm ?_
  refine qp (K.len_sl sl_22 rfl) ?_
  refine qp (K.sub_i64 rfl rfl (by omega)) ?_
  refine K.seq_call (K.call_g cal_49 (fun F w hF hw => c49 w)) rfl ?_
  refine zN ?_
  first | refine K.seq_pure (K.Pure.eq (K.not_d rfl) (show _ = Value.bool true from congrArg Value.bool (by rw [decide_eq_false hz]; rfl))) rfl ?_ | refine K.seq_pure (K.Pure.eq (K.not_ rfl) (show _ = Value.bool true from congrArg Value.bool (by rw [decide_eq_false hz]; rfl))) rfl ?_
  refine zN ?_
  refine qp (K.pick_t rfl) ?_
  refine sn ?_
  refine K.cond_true rfl ?_
  refine K.region_lit ?_
  refine qa ?_
  refine sn ?_
  refine K.seq ?_
  refine sr ?_
  refine qm ?_
  refine qp (K.Pure.eq (K.neq rfl rfl) (show _ = Value.bool true from congrArg Value.bool (rfl))) ?_
  refine sn ?_
  refine K.cond_true rfl ?_
  refine sr ?_
  refine qm ?_
  iterate 2 refine qa ?_
  refine sn ?_
  refine K.ret ?_
  refine K.ret_then ?_
  refine K.end_ret (fun w _ => K.res_tmp2 rfl w) ?_
  exact K.rets_se0 (by unfold pouL; rw [if_neg (by omega)]) he.symm rfl

set_option maxRecDepth 100000 in
theorem g20 {r : List RvT} {A : Option Addr} {c : Nat} {a : Nat} {w : World} (hR : K.Rd w A 4 eR r) (hn : r.length ≤ 4611686018427387904) (hc : (chk r).2.2 = 0) (ha : a < r.length) :
    Calls Tryd.prog 20 [.slice A r.length c, .int .i64 (a : Int)].toArray w (K.RetSE 3 1 K.eI (pouL r (a : Int)) (pouE r (a : Int)) w) := by
  have g : Good r := chk_good hc
  have hgn := g.n
  have hbl : badL r = badS r (ownS r) := by unfold badL; rw [if_neg (by omega)]
  have hsb : (badS r (ownS r)).length ≤ r.length := selN_len
  have hda := dep_is g ha
  have he : pouE r (a : Int) = 0 := by unfold pouE; rw [if_neg (by omega), if_pos (by omega)]
  refine K.enter (args := [.slice A r.length c, .int .i64 (a : Int)]) Tryd.func20 rfl (n := 49) rfl ?_
  simp only [List.replicate, List.cons_append, List.nil_append]
  refine sr ?_
  iterate 2 refine qa ?_
  refine sn ?_
  refine sr ?_
  refine qm ?_
  refine K.seq_loud (K.call_f cal_17 (fun F w hF hw => (by have hg := g17 (c := c) (hR.pass hw) hn hc; rw [hbl, hc] at hg; exact hg))) rfl ?_
  rintro ⟨Q1, q1⟩ hq1
  refine zN ?_
  refine qm ?_
  refine qx ?_
  refine qx ?_
  iterate 2 refine qa ?_
  refine sn ?_
  refine K.seq ?_
  refine sr ?_
  refine qm ?_
  refine qp (K.Pure.eq (K.eql rfl rfl) (show _ = Value.bool true from congrArg Value.bool (rfl))) ?_
  iterate 3 refine qm ?_
  refine qp (K.len_sl sl_22 rfl) ?_
  refine qp (K.sub_i64 rfl rfl (by omega)) ?_
  refine K.seq_call (K.call_g cal_49 (fun F w hF hw => c49 w)) rfl ?_
  refine zN ?_
  first | refine K.seq_pure (K.Pure.eq (K.not_d rfl) (show _ = Value.bool false from congrArg Value.bool (by rw [decide_eq_true (by omega)]; rfl))) rfl ?_ | refine K.seq_pure (K.Pure.eq (K.not_ rfl) (show _ = Value.bool false from congrArg Value.bool (by rw [decide_eq_true (by omega)]; rfl))) rfl ?_
  refine zN ?_
  refine qp (K.pick_t rfl) ?_
  refine sn ?_
  refine K.cond_false rfl ?_
  refine K.skip ?_
  refine K.norm_then ?_
  refine K.seq ?_
  refine sr ?_
  refine qm ?_
  refine qp (K.Pure.eq (K.neq rfl rfl) (show _ = Value.bool false from congrArg Value.bool (rfl))) ?_
  refine sn ?_
  refine K.cond_false rfl ?_
  refine K.skip ?_
  refine K.norm_then ?_
  refine sr ?_
  refine qm ?_
  refine K.seq_new (K.buildSlice (bs1 _)) rfl ?_
  intro b28
  refine zN ?_
  refine K.blk_row (n := 1) (size := 1) rfl (by decide) ?_
  refine qa ?_
  refine sn ?_
  refine K.seq ?_
  refine K.block ?_
  refine K.loopW [1, 8] [29, 30, 31, 32, 33, 34, 35, 36, 37, 38, 39, 40, 41, 42, 43, 44, 45, 46, 47, 48, 49] (fun vi L => ∃ (k : Nat) (Q2 : Option Addr) (q2 : Nat), vi = [.int .i64 ((stps r k a : Nat) : Int), .slice Q2 (stepL r a (k + 1)).length q2] ∧ L = [K.row (.slice Q2 (stepL r a (k + 1)).length q2) 3 1 (stepL r a (k + 1)).length ((stepL r a (k + 1)).flatMap K.eI), K.row (.slice Q1 (badS r (ownS r)).length q1) 3 1 (badS r (ownS r)).length ((badS r (ownS r)).flatMap K.eI)] ∧ k ≤ dep r a ∧ ∀ j, j < k → badB r (ownS r) (stps r j a) = false) (fun vi => dep r (intOf (K.nth vi 0)).toNat) ?_ ?_
  · exact ⟨0, _, _, rfl, rfl, Nat.zero_le _, fun j hj => absurd hj (Nat.not_lt_zero j)⟩
  intro vi vr L hJ
  obtain ⟨k, Q2, q2, rfl, rfl, hkd, hall⟩ := hJ
  have hls := stps_lt g ha k
  have hsn := step_len (r := r) (a := a) (k := k + 1)
  have hpk := g.p _ hls
  have hmb := bad_mem (h := ownS r) hls
  try dsimp only [setd, setn, ev, nth, over, cl, eI, eP, eT, eR, setM, setF, List.map, List.append, List.drop, List.take]
  refine K.seq ?_
  refine sr ?_
  iterate 2 refine qm ?_
  refine K.seq_ix (M := []) (stps r k a) hR.sl sl_22 rfl rfl (by omega) (by omega) rfl ?_
  intro p31 hp31
  refine zN ?_
  refine qp (K.fieldAddr fo_44_1 rfl) ?_
  refine K.seq_sil (K.load1 one_3 rfl ((K.PtrL.fld hp31 (k := 1)).any)) rfl ?_
  refine zN ?_
  refine qp (K.neq rfl rfl) ?_
  refine qm ?_
  refine K.split 35 rfl (fun hg35 => ?_) (fun hg35 => ?_)
  · try replace hg35 := of_decide_eq_true hg35
    iterate 2 refine qm ?_
    refine K.seq_call (K.call_g cal_38 (fun F w hF hw => (by have hX := (K.Rd.own (e := K.eI) (xs := (badS r (ownS r))) hw (hF _ (K.m1)) hq1 (fun _ => rfl) (by decide)); exact c38 hX (by omega)))) rfl ?_
    refine zN ?_
    first | refine K.seq_pure (K.not_d rfl) rfl ?_ | refine K.seq_pure (K.not_ rfl) rfl ?_
    refine zN ?_
    refine qp (K.pick_t rfl) ?_
    refine sn ?_
    refine K.cond rfl (fun ht40 => ?_) (fun ht40 => ?_)
    · try replace ht40 := of_decide_eq_true ht40
      refine K.skip ?_
      refine K.norm_then ?_
      refine K.block ?_
      refine sr ?_
      iterate 2 refine qm ?_
      refine K.seq_ix (M := []) (stps r k a) hR.sl sl_22 rfl rfl (by omega) (by omega) rfl ?_
      intro p43 hp43
      refine zN ?_
      refine qp (K.fieldAddr fo_44_1 rfl) ?_
      refine K.seq_sil (K.load1 one_3 rfl ((K.PtrL.fld hp43 (k := 1)).any)) rfl ?_
      refine zN ?_
      refine qa ?_
      refine sn ?_
      refine K.region_lit ?_
      iterate 2 refine qm ?_
      refine K.seq_new (K.buildSlice (bs1 _)) rfl ?_
      intro b48
      refine zN ?_
      refine K.seq_upd (K.append el_26 rfl rfl (K.PtrL.own' (K.m0)) rfl rfl (by decide) (by omega) (by omega) (fun _ _ => K.rp1)) rfl ?_
      rintro ⟨g49, c49⟩ _
      refine zN ?_
      refine qa ?_
      refine K.seq_nil ?_
      refine K.norm_block ?_
      have hup := stps_up hg35
      have hbn : badB r (ownS r) (stps r k a) = false := by
        rw [← Bool.not_eq_true]; exact fun h => ht40 (hmb.2 h)
      have hkl : k < dep r a := by
        rcases Nat.lt_or_ge k (dep r a) with h | h
        · exact h
        · rw [show k = dep r a by omega] at hg35; exact absurd hda.2.1 hg35
      have hst : ((stps r (k + 1) a : Nat) : Int) = (r.getD (stps r k a) default).dn := by rw [hup]; omega
      exact K.round_endW (L'' := [K.row (.slice (some ⟨g49, 0, none⟩) ((stepL r a (k + 1)).length + 1) c49) 3 1 ((stepL r a (k + 1)).length + 1) ((stepL r a (k + 1)).flatMap K.eI ++ [.int .i64 (r.getD (stps r k a) default).dn]), K.row (.slice Q1 (badS r (ownS r)).length q1) 3 1 (badS r (ownS r)).length ((badS r (ownS r)).flatMap K.eI)]) [.int .i64 (r.getD (stps r k a) default).dn, .slice (some ⟨g49, 0, none⟩) ((stepL r a (k + 1)).length + 1) c49] ⟨k + 1, some ⟨g49, 0, none⟩, c49, by rw [hst, step_s (k := k + 1), List.length_append]; rfl, by rw [step_s (k := k + 1), hst, List.length_append, List.flatMap_append]; rfl, hkl, K.lt_succ_case hall hbn⟩ (by show dep r (r.getD (stps r k a) default).dn.toNat < dep r ((stps r k a : Nat) : Int).toNat; rw [← hup, Int.toNat_natCast, dep_stps g ha, dep_stps g ha]; omega) (List.Sublist.cons _ (List.Sublist.refl _)) (by kernel_rfl)
    try replace ht40 := of_decide_eq_false ht40
    refine K.exit ?_
    refine K.exit_then ?_
    refine K.exit_then ?_
    refine K.exit_here ?_
    refine K.norm_then ?_
    refine sr ?_
    refine qm ?_
    iterate 2 refine qa ?_
    refine sn ?_
    refine K.ret ?_
    refine K.end_ret (fun w _ => K.res_tmp2 rfl w) ?_
    have hbt : badB r (ownS r) (stps r k a) = true := hmb.1 (Decidable.not_not.1 ht40)
    have hl : pouL r (a : Int) = (stepL r a (k + 1)) := by unfold pouL; rw [if_pos he, Int.toNat_natCast]; exact poured_bad g ha hkd hall hbt
    rw [hl, he]
    exact K.rets_se K.m0 rfl rfl rfl rfl
  try replace hg35 := of_decide_eq_false hg35
  iterate 4 refine qs ?_
  refine qp (K.pick_f rfl) ?_
  refine sn ?_
  refine K.cond_false rfl ?_
  refine K.exit ?_
  refine K.exit_then ?_
  refine K.exit_then ?_
  refine K.exit_here ?_
  refine K.norm_then ?_
  refine sr ?_
  refine qm ?_
  iterate 2 refine qa ?_
  refine sn ?_
  refine K.ret ?_
  refine K.end_ret (fun w _ => K.res_tmp2 rfl w) ?_
  have hd0 : (r.getD (stps r k a) default).dn = -1 := Decidable.not_not.1 hg35
  have e0 : k = dep r a := by
    rcases Nat.lt_or_ge k (dep r a) with h | h
    · exact absurd hd0 (hda.2.2 k h)
    · omega
  subst e0
  have hl : pouL r (a : Int) = (stepL r a (dep r a + 1)) := by unfold pouL; rw [if_pos he, Int.toNat_natCast]; exact poured_all g ha (fun j hj => by rcases Nat.lt_or_ge j (dep r a) with h | h; exact hall j h; rw [show j = dep r a by omega]; exact bad_no.2 (.inl hd0))
  rw [hl, he]
  exact K.rets_se K.m0 rfl rfl rfl rfl

theorem c20 {r : List RvT} {A : Option Addr} {c : Nat} {z : Int} {w : World} (hR : K.Rd w A 4 eR r) (hn : r.length ≤ 4611686018427387904) : Calls Tryd.prog 20 [.slice A r.length c, .int .i64 z].toArray w (K.RetSE 3 1 K.eI (pouL r z) (pouE r z) w) := by
  by_cases hc : (chk r).2.2 = 0
  · by_cases hz : 0 ≤ z ∧ z ≤ (r.length : Int) - 1
    · have h := g20 (c := c) (a := z.toNat) hR hn hc (by omega)
      rwa [Int.toNat_of_nonneg hz.1] at h
    · exact f20 hR hn hc hz
  · exact e20 hR hn hc


end Go.Proofs.YtoemnobfnnjopaaDoor
end
section
set_option linter.unusedSimpArgs false
set_option linter.unusedVariables false
namespace Go.Proofs.YtoemnobfnnjopaaDoor
open Go.RowKit Go
open Go.K (setd setn ev nth over cl eI eP eT setM setF)
attribute [local irreducible] K.blk K.row

theorem badL_len {r : List RvT} : (badL r).length ≤ r.length := by
  unfold badL
  split
  · exact Nat.zero_le _
  · exact selN_len
theorem fillL_len {r : List RvT} : (fillL r).length ≤ r.length := by
  unfold fillL
  split
  · exact Nat.le_of_eq fill_len
  · exact Nat.zero_le _
theorem carveL_len {r : List RvT} : (carveL r).length ≤ r.length := by
  unfold carveL
  split
  · exact Nat.le_of_eq carve_len
  · exact Nat.zero_le _
theorem ok_len {r : List RvT} : (chk r).2.2 ≠ 0 ∨ r.length ≤ 9 := by
  by_cases h : (chk r).2.2 = 0
  · exact .inr (chk_good h).n.2
  · exact .inl h
theorem badL_9 {r : List RvT} : (badL r).length ≤ 9 := by
  rcases ok_len (r := r) with h | h
  · unfold badL; rw [if_pos h]; exact Nat.zero_le _
  · exact Nat.le_trans badL_len h
theorem fillL_9 {r : List RvT} : (fillL r).length ≤ 9 := by
  rcases ok_len (r := r) with h | h
  · have he : fillE r = (chk r).2.2 := by unfold fillE; rw [if_pos h]
    unfold fillL; rw [if_neg (by omega)]; exact Nat.zero_le _
  · exact Nat.le_trans fillL_len h
theorem carveL_9 {r : List RvT} : (carveL r).length ≤ 9 := by
  rcases ok_len (r := r) with h | h
  · have he : carveE r = (chk r).2.2 := by unfold carveE; rw [if_pos h]
    unfold carveL; rw [if_neg (by omega)]; exact Nat.zero_le _
  · exact Nat.le_trans carveL_len h
theorem stop_le {r : List RvT} {a : Nat} (g : Good r) (ha : a < r.length) : stopN r a ≤ dep r a ∧ stopB r a (stopN r a) = true ∧ ∀ j, j < stopN r a → stopB r a j = false := by
  have hd := dep_is g ha
  have hs : stopB r a (dep r a) = true := by unfold stopB; rw [decide_eq_true hd.2.1, Bool.or_true]
  cases e : (List.range (r.length + 1)).find? (stopB r a) with
  | none =>
    have := List.find?_eq_none.1 e (dep r a) (List.mem_range.2 (by omega))
    rw [hs] at this; exact absurd rfl this
  | some d =>
    have e2 : stopN r a = d := by unfold stopN; rw [e]; rfl
    rw [List.find?_range_eq_some] at e
    obtain ⟨h1, h2, h3⟩ := e
    rw [e2]
    have hall : ∀ j, j < d → stopB r a j = false := fun j hj => by
      have := h3 j hj; simpa using this
    refine ⟨?_, h1, hall⟩
    rcases Nat.lt_or_ge (dep r a) d with h | h
    · rw [hall _ h] at hs; cases hs
    · exact h
theorem pouL_9 {r : List RvT} {z : Int} : (pouL r z).length ≤ 10 := by
  rcases ok_len (r := r) with h | h
  · have he : pouE r z = (chk r).2.2 := by unfold pouE; rw [if_pos h]
    unfold pouL; rw [if_neg (by omega)]; exact Nat.zero_le _
  · unfold pouL
    split
    · rename_i he
      have hc : (chk r).2.2 = 0 := by
        by_cases hc : (chk r).2.2 = 0
        · exact hc
        · unfold pouE at he; rw [if_pos hc] at he; exact absurd he hc
      have hz : 0 ≤ z ∧ z ≤ (r.length : Int) - 1 := by
        unfold pouE at he; rw [if_neg (by omega)] at he
        split at he
        · assumption
        · omega
      have g := chk_good hc
      have := stop_le g (a := z.toNat) (by omega)
      have := dep_is g (show z.toNat < r.length by omega)
      unfold pouredS
      rw [step_len]; omega
    · exact Nat.zero_le _


set_option maxRecDepth 100000 in
set_option maxHeartbeats 2000000 in
theorem c3 {r : List RvT} {A : Option Addr} {c : Nat} {z : Int} {w : World} (hR : K.Rd w A 4 eR r) (hn : r.length ≤ 17592186043904) (hT : Tab w) :
    Calls Tryd.prog 3 [.slice A r.length c, .int .i64 z].toArray w (K.Gives (.bool true) w) := by
  have hn4 : r.length ≤ 4611686018427387904 := by omega
  have l1 := badL_9 (r := r)
  have l2 := pouL_9 (r := r) (z := z)
  have l3 := fillL_9 (r := r)
  have l4 := carveL_9 (r := r)
  refine K.enter (args := [.slice A r.length c, .int .i64 z]) Tryd.func3 rfl (n := 116) rfl ?_
  simp only [List.replicate, List.cons_append, List.nil_append]
  refine sr ?_
  refine qa ?_
  refine sn ?_
  refine sr ?_
  refine qm ?_
  refine K.seq_call (K.call_g cal_14 (fun F w hF hw => c14 (hR.pass hw) hn4)) rfl ?_
  refine zN ?_
  refine qm ?_
  refine qx ?_
  refine qx ?_
  refine qx ?_
  iterate 3 refine qa ?_
  refine sn ?_
  refine sr ?_
  refine qm ?_
  refine K.seq_call (K.call_g cal_15 (fun F w hF hw => c15 (hR.pass hw) hn4)) rfl ?_
  refine zN ?_
  refine qm ?_
  refine qx ?_
  refine qx ?_
  refine qx ?_
  iterate 3 refine qa ?_
  refine sn ?_
  refine K.seq ?_
  refine sr ?_
  iterate 2 refine qm ?_
  refine qp (K.Pure.eq (K.neq rfl rfl) (show _ = Value.bool false from congrArg Value.bool (by simp))) ?_
  iterate 3 refine qm ?_
  refine qp (K.Pure.eq (K.neq rfl rfl) (show _ = Value.bool false from congrArg Value.bool (by simp))) ?_
  refine qp (K.pick_f rfl) ?_
  iterate 3 refine qm ?_
  refine qp (K.Pure.eq (K.neq rfl rfl) (show _ = Value.bool false from congrArg Value.bool (by simp))) ?_
  refine qp (K.pick_f rfl) ?_
  refine sn ?_
  refine K.cond_false rfl ?_
  refine K.skip ?_
  refine K.norm_then ?_
  refine sr ?_
  refine qm ?_
  refine K.seq_loud (K.call_f cal_16 (fun F w hF hw => c16 (hR.pass hw) hn4)) rfl ?_
  rintro ⟨Q1, q1⟩ hq1
  refine zN ?_
  refine qm ?_
  refine qx ?_
  refine qx ?_
  iterate 2 refine qa ?_
  refine sn ?_
  refine sr ?_
  refine qm ?_
  refine K.seq_loud (K.call_f cal_17 (fun F w hF hw => c17 (hR.pass hw) hn4)) rfl ?_
  rintro ⟨Q2, q2⟩ hq2
  refine zN ?_
  refine qm ?_
  refine qx ?_
  refine qx ?_
  iterate 2 refine qa ?_
  refine sn ?_
  refine K.seq ?_
  refine sr ?_
  iterate 2 refine qm ?_
  refine K.seq_call (K.call_g cal_18 (fun F w hF hw => (by have hX := (K.Rd.own (e := K.eI) (xs := (badL r)) hw (hF _ (K.m1)) hq1 (fun _ => rfl) (by decide)); have hY := (K.Rd.own (e := K.eI) (xs := (badL r)) hw (hF _ (K.m0)) hq2 (fun _ => rfl) (by decide)); exact c18t (xs := (badL r)) hX hY (by omega)))) rfl ?_
  refine zN ?_
  first | refine K.seq_pure (K.Pure.eq (K.not_d rfl) (show _ = Value.bool false from rfl)) rfl ?_ | refine K.seq_pure (K.Pure.eq (K.not_ rfl) (show _ = Value.bool false from rfl)) rfl ?_
  refine zN ?_
  iterate 3 refine qm ?_
  refine qp (K.Pure.eq (K.neq rfl rfl) (show _ = Value.bool false from congrArg Value.bool (by simp))) ?_
  refine qp (K.pick_f rfl) ?_
  refine sn ?_
  refine K.cond_false rfl ?_
  refine K.skip ?_
  refine K.norm_then ?_
  refine sr ?_
  iterate 2 refine qm ?_
  refine K.seq_loud (K.call_f cal_19 (fun F w hF hw => c19 (hR.pass hw) hn4)) rfl ?_
  rintro ⟨Q3, q3⟩ hq3
  refine zN ?_
  refine qm ?_
  refine qx ?_
  refine qx ?_
  iterate 2 refine qa ?_
  refine sn ?_
  refine sr ?_
  iterate 2 refine qm ?_
  refine K.seq_loud (K.call_f cal_20 (fun F w hF hw => c20 (hR.pass hw) hn4)) rfl ?_
  rintro ⟨Q4, q4⟩ hq4
  refine zN ?_
  refine qm ?_
  refine qx ?_
  refine qx ?_
  iterate 2 refine qa ?_
  refine sn ?_
  refine K.seq ?_
  refine sr ?_
  iterate 2 refine qm ?_
  refine K.seq_call (K.call_g cal_18 (fun F w hF hw => (by have hX := (K.Rd.own (e := K.eI) (xs := (pouL r z)) hw (hF _ (K.m1)) hq3 (fun _ => rfl) (by decide)); have hY := (K.Rd.own (e := K.eI) (xs := (pouL r z)) hw (hF _ (K.m0)) hq4 (fun _ => rfl) (by decide)); exact c18t (xs := (pouL r z)) hX hY (by omega)))) rfl ?_
  refine zN ?_
  first | refine K.seq_pure (K.Pure.eq (K.not_d rfl) (show _ = Value.bool false from rfl)) rfl ?_ | refine K.seq_pure (K.Pure.eq (K.not_ rfl) (show _ = Value.bool false from rfl)) rfl ?_
  refine zN ?_
  iterate 3 refine qm ?_
  refine qp (K.Pure.eq (K.neq rfl rfl) (show _ = Value.bool false from congrArg Value.bool (by simp))) ?_
  refine qp (K.pick_f rfl) ?_
  refine sn ?_
  refine K.cond_false rfl ?_
  refine K.skip ?_
  refine K.norm_then ?_
  refine sr ?_
  refine qm ?_
  refine K.seq_loud (K.call_f cal_21 (fun F w hF hw => c21 (hR.pass hw) hn4)) rfl ?_
  rintro ⟨Q5, q5⟩ hq5
  refine zN ?_
  refine qm ?_
  refine qx ?_
  refine qx ?_
  iterate 2 refine qa ?_
  refine sn ?_
  refine sr ?_
  refine qm ?_
  refine K.seq_loud (K.call_f cal_22 (fun F w hF hw => c22 (hR.pass hw) hn4)) rfl ?_
  rintro ⟨Q6, q6⟩ hq6
  refine zN ?_
  refine qm ?_
  refine qx ?_
  refine qx ?_
  iterate 2 refine qa ?_
  refine sn ?_
  refine K.seq ?_
  refine sr ?_
  iterate 2 refine qm ?_
  refine K.seq_call (K.call_g cal_18 (fun F w hF hw => (by have hX := (K.Rd.own (e := K.eI) (xs := (fillL r)) hw (hF _ (K.m1)) hq5 (fun _ => rfl) (by decide)); have hY := (K.Rd.own (e := K.eI) (xs := (fillL r)) hw (hF _ (K.m0)) hq6 (fun _ => rfl) (by decide)); exact c18t (xs := (fillL r)) hX hY (by omega)))) rfl ?_
  refine zN ?_
  first | refine K.seq_pure (K.Pure.eq (K.not_d rfl) (show _ = Value.bool false from rfl)) rfl ?_ | refine K.seq_pure (K.Pure.eq (K.not_ rfl) (show _ = Value.bool false from rfl)) rfl ?_
  refine zN ?_
  iterate 3 refine qm ?_
  refine qp (K.Pure.eq (K.neq rfl rfl) (show _ = Value.bool false from congrArg Value.bool (by simp))) ?_
  refine qp (K.pick_f rfl) ?_
  refine sn ?_
  refine K.cond_false rfl ?_
  refine K.skip ?_
  refine K.norm_then ?_
  refine sr ?_
  refine qm ?_
  refine K.seq_loud (K.call_f cal_23 (fun F w hF hw => c23 (hR.pass hw) hn4)) rfl ?_
  rintro ⟨Q7, q7⟩ hq7
  refine zN ?_
  refine qm ?_
  refine qx ?_
  refine qx ?_
  iterate 2 refine qa ?_
  refine sn ?_
  refine sr ?_
  refine qm ?_
  refine K.seq_loud (K.call_f cal_24 (fun F w hF hw => c24 (hR.pass hw) hn4)) rfl ?_
  rintro ⟨Q8, q8⟩ hq8
  refine zN ?_
  refine qm ?_
  refine qx ?_
  refine qx ?_
  iterate 2 refine qa ?_
  refine sn ?_
  refine sr ?_
  iterate 2 refine qm ?_
  refine K.seq_call (K.call_g cal_18 (fun F w hF hw => (by have hX := (K.Rd.own (e := K.eI) (xs := (carveL r)) hw (hF _ (K.m1)) hq7 (fun _ => rfl) (by decide)); have hY := (K.Rd.own (e := K.eI) (xs := (carveL r)) hw (hF _ (K.m0)) hq8 (fun _ => rfl) (by decide)); exact c18t (xs := (carveL r)) hX hY (by omega)))) rfl ?_
  refine zN ?_
  iterate 3 refine qm ?_
  refine qp (K.Pure.eq (K.eql rfl rfl) (show _ = Value.bool true from congrArg Value.bool (by simp))) ?_
  refine qp (K.pick_t rfl) ?_
  refine qm ?_
  refine K.seq_call (K.call_g cal_25 (fun F w hF hw => c25 (hT.pass hw))) rfl ?_
  refine zN ?_
  refine qp (K.pick_t rfl) ?_
  refine qa ?_
  refine sn ?_
  refine K.ret ?_
  refine K.end_ret (fun w _ => K.res_tmp rfl w) ?_
  exact K.gives rfl

end Go.Proofs.YtoemnobfnnjopaaDoor
end
section
set_option linter.unusedSimpArgs false
set_option linter.unusedVariables false
namespace Go.Proofs.YtoemnobfnnjopaaDoor
open Go.RowKit Go
open Go.K (setd setn ev nth over cl eI eP eT setM setF)
attribute [local irreducible] K.blk K.row

set_option maxRecDepth 100000 in
theorem c80 {r : List RvT} {A : Option Addr} {c : Nat} {i : Nat} {w : World} (hR : K.Rd w A 4 eR r) (g : Good r) (hi : i < r.length) :
    Calls Tryd.prog 80 [.slice A r.length c, .int .i64 (i : Int)].toArray w (K.Gives (.bool (outS r i)) w) := by
  have hgn := g.n
  have hpi := g.p i hi
  refine K.enter (args := [.slice A r.length c, .int .i64 (i : Int)]) Tryd.func80 rfl (n := 45) rfl ?_
  simp only [List.replicate, List.cons_append, List.nil_append]
  refine sr ?_
  refine qa ?_
  refine sn ?_
  refine K.seq ?_
  refine sr ?_
  refine qa ?_
  refine sn ?_
  refine K.block ?_
  refine K.loopW [5] [4, 6, 7, 8, 9, 10, 11, 12, 13, 14, 15, 16, 17, 18, 19, 20, 21, 22, 23, 24, 25, 26, 27, 28, 29, 30, 31, 32, 33, 34, 35, 36, 37, 38, 39, 40, 41, 42, 43, 44, 45, 46] (fun vi L => ∃ k : Nat, vi = [.int .i64 (k : Int)] ∧ L = [] ∧ k ≤ r.length ∧ ∀ j, j < k → ¬ (drp r i j > (r.getD i default).ht) ∧ ¬ (drp r j i > 9000 - (r.getD i default).ht)) (fun vi => r.length - (intOf (K.nth vi 0)).toNat) ?_ ?_
  · exact ⟨0, rfl, rfl, Nat.zero_le _, fun j hj => absurd hj (Nat.not_lt_zero j)⟩
  intro vi vr L hJ
  obtain ⟨k, rfl, rfl, hkn, hall⟩ := hJ
  try dsimp only [setd, setn, ev, nth, over, cl, eI, eP, eT, eR, setM, setF, List.map, List.append, List.drop, List.take]
  refine K.seq ?_
  refine sr ?_
  iterate 2 refine qm ?_
  refine qp (K.len_sl sl_22 rfl) ?_
  refine qp (K.lss rfl rfl) ?_
  refine sn ?_
  refine K.cond rfl (fun ht11 => ?_) (fun ht11 => ?_)
  · try replace ht11 := of_decide_eq_true ht11
    have hk : k < r.length := by omega
    have hb1 := drp_bd (k := k) g hi
    have hb2 := drp_bd (k := i) g hk
    refine K.skip ?_
    refine K.norm_then ?_
    refine K.seq ?_
    refine K.block ?_
    refine sr ?_
    iterate 3 refine qm ?_
    refine K.seq_call (K.call_g cal_37 (fun F w hF hw => c37 (hR.pass hw) g hi)) rfl ?_
    refine zN ?_
    iterate 3 refine qm ?_
    refine K.seq_call (K.call_g cal_37 (fun F w hF hw => c37 (hR.pass hw) g hk)) rfl ?_
    refine zN ?_
    iterate 2 refine qa ?_
    refine sn ?_
    refine sr ?_
    refine qm ?_
    refine qp (K.geq rfl rfl) ?_
    refine qm ?_
    refine K.split 24 rfl (fun hg24 => ?_) (fun hg24 => ?_)
    · try replace hg24 := of_decide_eq_true hg24
      iterate 2 refine qm ?_
      refine K.seq_ix (M := []) _ hR.sl sl_22 rfl rfl rfl (by omega) rfl ?_
      intro p27 hp27
      refine zN ?_
      refine qp (K.fieldAddr fo_44_3 rfl) ?_
      refine K.seq_sil (K.load1 one_3 rfl ((K.PtrL.fld hp27 (k := 3)).any)) rfl ?_
      refine zN ?_
      refine qm ?_
      refine qp (K.lss rfl rfl) ?_
      refine qp (K.pick_t rfl) ?_
      refine qm ?_
      refine K.split 33 rfl (fun hg33 => ?_) (fun hg33 => ?_)
      · try replace hg33 := of_decide_eq_true hg33
        iterate 12 refine qs ?_
        refine qp (K.pick_t rfl) ?_
        refine sn ?_
        refine K.cond_true rfl ?_
        refine sr ?_
        refine qa ?_
        refine sn ?_
        refine K.ret ?_
        refine K.ret_block ?_
        refine K.ret_then ?_
        refine K.ret_then ?_
        refine K.ret_block ?_
        refine K.ret_then ?_
        refine K.end_ret (fun w _ => K.res_tmp rfl w) ?_
        first
          | exact K.gives_b rfl (out_t hk (by omega)).symm
          | exact K.gives_b rfl (out_f (fun j hj => hall j (by omega))).symm
      try replace hg33 := of_decide_eq_false hg33
      refine qm ?_
      refine qp (K.geq rfl rfl) ?_
      refine qm ?_
      refine K.split 36 rfl (fun hg36 => ?_) (fun hg36 => ?_)
      · try replace hg36 := of_decide_eq_true hg36
        iterate 2 refine qm ?_
        refine K.seq_ix (M := []) _ hR.sl sl_22 rfl rfl rfl (by omega) rfl ?_
        intro p39 hp39
        refine zN ?_
        refine qp (K.fieldAddr fo_44_3 rfl) ?_
        refine K.seq_sil (K.load1 one_3 rfl ((K.PtrL.fld hp39 (k := 3)).any)) rfl ?_
        refine zN ?_
        refine qm ?_
        refine qp (K.add_i64 rfl rfl (by omega)) ?_
        refine qp (K.gtr rfl rfl) ?_
        refine qp (K.pick_t rfl) ?_
        refine qp (K.pick_f rfl) ?_
        refine sn ?_
        refine K.cond rfl (fun ht46 => ?_) (fun ht46 => ?_)
        · try replace ht46 := of_decide_eq_true ht46
          refine sr ?_
          refine qa ?_
          refine sn ?_
          refine K.ret ?_
          refine K.ret_block ?_
          refine K.ret_then ?_
          refine K.ret_then ?_
          refine K.ret_block ?_
          refine K.ret_then ?_
          refine K.end_ret (fun w _ => K.res_tmp rfl w) ?_
          first
            | exact K.gives_b rfl (out_t hk (by omega)).symm
            | exact K.gives_b rfl (out_f (fun j hj => hall j (by omega))).symm
        try replace ht46 := of_decide_eq_false ht46
        refine K.skip ?_
        refine K.norm_block ?_
        refine K.norm_then ?_
        refine K.region_lit ?_
        refine qm ?_
        refine qp (K.add_i64 rfl rfl (by omega)) ?_
        refine qa ?_
        refine K.seq_nil ?_
        have hok : ¬ (drp r i k > (r.getD i default).ht) ∧ ¬ (drp r k i > 9000 - (r.getD i default).ht) := by omega
        exact K.round_endW (L'' := []) [.int .i64 ((k : Int) + 1)] ⟨k + 1, rfl, rfl, by omega, K.lt_succ_case hall hok⟩ (by simp [K.nth, intOf]; omega) (List.nil_sublist _) (by kernel_rfl)
      try replace hg36 := of_decide_eq_false hg36
      iterate 8 refine qs ?_
      refine qp (K.pick_f rfl) ?_
      refine qp (K.pick_f rfl) ?_
      refine sn ?_
      refine K.cond_false rfl ?_
      refine K.skip ?_
      refine K.norm_block ?_
      refine K.norm_then ?_
      refine K.region_lit ?_
      refine qm ?_
      refine qp (K.add_i64 rfl rfl (by omega)) ?_
      refine qa ?_
      refine K.seq_nil ?_
      have hok : ¬ (drp r i k > (r.getD i default).ht) ∧ ¬ (drp r k i > 9000 - (r.getD i default).ht) := by omega
      exact K.round_endW (L'' := []) [.int .i64 ((k : Int) + 1)] ⟨k + 1, rfl, rfl, by omega, K.lt_succ_case hall hok⟩ (by simp [K.nth, intOf]; omega) (List.nil_sublist _) (by kernel_rfl)
    try replace hg24 := of_decide_eq_false hg24
    iterate 7 refine qs ?_
    refine qp (K.pick_f rfl) ?_
    iterate 2 refine qm ?_
    refine qp (K.geq rfl rfl) ?_
    refine qm ?_
    refine K.split 36 rfl (fun hg36 => ?_) (fun hg36 => ?_)
    · try replace hg36 := of_decide_eq_true hg36
      iterate 2 refine qm ?_
      refine K.seq_ix (M := []) _ hR.sl sl_22 rfl rfl rfl (by omega) rfl ?_
      intro p39 hp39
      refine zN ?_
      refine qp (K.fieldAddr fo_44_3 rfl) ?_
      refine K.seq_sil (K.load1 one_3 rfl ((K.PtrL.fld hp39 (k := 3)).any)) rfl ?_
      refine zN ?_
      refine qm ?_
      refine qp (K.add_i64 rfl rfl (by omega)) ?_
      refine qp (K.gtr rfl rfl) ?_
      refine qp (K.pick_t rfl) ?_
      refine qp (K.pick_f rfl) ?_
      refine sn ?_
      refine K.cond rfl (fun ht46 => ?_) (fun ht46 => ?_)
      · try replace ht46 := of_decide_eq_true ht46
        refine sr ?_
        refine qa ?_
        refine sn ?_
        refine K.ret ?_
        refine K.ret_block ?_
        refine K.ret_then ?_
        refine K.ret_then ?_
        refine K.ret_block ?_
        refine K.ret_then ?_
        refine K.end_ret (fun w _ => K.res_tmp rfl w) ?_
        first
          | exact K.gives_b rfl (out_t hk (by omega)).symm
          | exact K.gives_b rfl (out_f (fun j hj => hall j (by omega))).symm
      try replace ht46 := of_decide_eq_false ht46
      refine K.skip ?_
      refine K.norm_block ?_
      refine K.norm_then ?_
      refine K.region_lit ?_
      refine qm ?_
      refine qp (K.add_i64 rfl rfl (by omega)) ?_
      refine qa ?_
      refine K.seq_nil ?_
      have hok : ¬ (drp r i k > (r.getD i default).ht) ∧ ¬ (drp r k i > 9000 - (r.getD i default).ht) := by omega
      exact K.round_endW (L'' := []) [.int .i64 ((k : Int) + 1)] ⟨k + 1, rfl, rfl, by omega, K.lt_succ_case hall hok⟩ (by simp [K.nth, intOf]; omega) (List.nil_sublist _) (by kernel_rfl)
    try replace hg36 := of_decide_eq_false hg36
    iterate 8 refine qs ?_
    refine qp (K.pick_f rfl) ?_
    refine qp (K.pick_f rfl) ?_
    refine sn ?_
    refine K.cond_false rfl ?_
    refine K.skip ?_
    refine K.norm_block ?_
    refine K.norm_then ?_
    refine K.region_lit ?_
    refine qm ?_
    refine qp (K.add_i64 rfl rfl (by omega)) ?_
    refine qa ?_
    refine K.seq_nil ?_
    have hok : ¬ (drp r i k > (r.getD i default).ht) ∧ ¬ (drp r k i > 9000 - (r.getD i default).ht) := by omega
    exact K.round_endW (L'' := []) [.int .i64 ((k : Int) + 1)] ⟨k + 1, rfl, rfl, by omega, K.lt_succ_case hall hok⟩ (by simp [K.nth, intOf]; omega) (List.nil_sublist _) (by kernel_rfl)
  try replace ht11 := of_decide_eq_false ht11
  refine K.exit ?_
  refine K.exit_then ?_
  refine K.exit_then ?_
  refine K.exit_here ?_
  refine K.norm_then ?_
  refine sr ?_
  refine qa ?_
  refine sn ?_
  refine K.ret ?_
  refine K.end_ret (fun w _ => K.res_tmp rfl w) ?_
  first
    | exact K.gives_b rfl (out_t hk (by omega)).symm
    | exact K.gives_b rfl (out_f (fun j hj => hall j (by omega))).symm

set_option maxRecDepth 100000 in
theorem c44 {r : List RvT} {A : Option Addr} {c : Nat} {w : World} (hR : K.Rd w A 4 eR r) (g : Good r) :
    Calls Tryd.prog 44 [.slice A r.length c].toArray w (K.Gives (.bool (reaS r)) w) := by
  have hgn := g.n
  refine K.enter (args := [.slice A r.length c]) Tryd.func44 rfl (n := 12) rfl ?_
  simp only [List.replicate, List.cons_append, List.nil_append]
  refine sr ?_
  refine qa ?_
  refine sn ?_
  refine K.seq ?_
  refine sr ?_
  refine qa ?_
  refine sn ?_
  refine K.block ?_
  refine K.loopW [3] [2, 4, 5, 6, 7, 8, 9, 10, 11, 12] (fun vi L => ∃ i : Nat, vi = [.int .i64 (i : Int)] ∧ L = [] ∧ i ≤ r.length ∧ ∀ j, j < i → outS r j = false) (fun vi => r.length - (intOf (K.nth vi 0)).toNat) ?_ ?_
  · exact ⟨0, rfl, rfl, Nat.zero_le _, fun j hj => absurd hj (Nat.not_lt_zero j)⟩
  intro vi vr L hJ
  obtain ⟨i, rfl, rfl, hin, hall⟩ := hJ
  try dsimp only [setd, setn, ev, nth, over, cl, eI, eP, eT, eR, setM, setF, List.map, List.append, List.drop, List.take]
  refine K.seq ?_
  refine sr ?_
  iterate 2 refine qm ?_
  refine qp (K.len_sl sl_22 rfl) ?_
  refine qp (K.lss rfl rfl) ?_
  refine sn ?_
  refine K.cond rfl (fun ht7 => ?_) (fun ht7 => ?_)
  · try replace ht7 := of_decide_eq_true ht7
    have hi : i < r.length := by omega
    refine K.skip ?_
    refine K.norm_then ?_
    refine K.seq ?_
    refine K.block ?_
    refine sr ?_
    iterate 2 refine qm ?_
    refine K.seq_call (K.call_g cal_80 (fun F w hF hw => c80 (hR.pass hw) g hi)) rfl ?_
    refine zN ?_
    refine sn ?_
    refine K.cond rfl (fun ht12 => ?_) (fun ht12 => ?_)
    · try replace ht12 := of_decide_eq_true ht12
      refine sr ?_
      refine qa ?_
      refine sn ?_
      refine K.ret ?_
      refine K.ret_block ?_
      refine K.ret_then ?_
      refine K.ret_then ?_
      refine K.ret_block ?_
      refine K.ret_then ?_
      refine K.end_ret (fun w _ => K.res_tmp rfl w) ?_
      first
        | exact K.gives_b rfl (rea_f hi (by simpa using ht12)).symm
        | exact K.gives_b rfl (rea_iff.2 (fun j hj => hall j (by omega))).symm
    try replace ht12 := of_decide_eq_false ht12
    refine K.skip ?_
    refine K.norm_block ?_
    refine K.norm_then ?_
    refine K.region_lit ?_
    refine qm ?_
    refine qp (K.add_i64 rfl rfl (by omega)) ?_
    refine qa ?_
    refine K.seq_nil ?_
    have hok : outS r i = false := by simpa using ht12
    exact K.round_endW (L'' := []) [.int .i64 ((i : Int) + 1)] ⟨i + 1, rfl, rfl, by omega, K.lt_succ_case hall hok⟩ (by simp [K.nth, intOf]; omega) (List.nil_sublist _) (by kernel_rfl)
  try replace ht7 := of_decide_eq_false ht7
  refine K.exit ?_
  refine K.exit_then ?_
  refine K.exit_then ?_
  refine K.exit_here ?_
  refine K.norm_then ?_
  refine sr ?_
  refine qa ?_
  refine sn ?_
  refine K.ret ?_
  refine K.end_ret (fun w _ => K.res_tmp rfl w) ?_
  first
    | exact K.gives_b rfl (rea_f hi (by simpa using ht12)).symm
    | exact K.gives_b rfl (rea_iff.2 (fun j hj => hall j (by omega))).symm






end Go.Proofs.YtoemnobfnnjopaaDoor
end
