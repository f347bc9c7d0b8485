/-
  Lemmas and walks of functions, joined and with only what the claim needs.
  Conditions stand in each theorem.
-/
import Derived.Test.YtekkpcpbnonkaaaGreatDoorProg
import Derived.Test.YtekkpcpbnonkaaaGreatDoorRows
import Derived.Below
import Derived.Laws.AppendOwn
import Derived.Laws.Rows
import Derived.Laws.Slices
import Derived.Tactics
import Derived.OrdersHeld
import Derived.KernelRfl
import Derived.WalkKit
import Derived.Deep.AppendLies
import Derived.IntWalk
import Derived.Scope
import Derived.WalkSpells
import Derived.DeepKeys
import Derived.Deep.Upon
import Derived.Laws.Small
import Derived.RangeFuncLeaves
import Derived.RangeFuncSeq
import Derived.OrdersIn
import Derived.Sort.LoopGhostIn
import Derived.TacticsIn
import Derived.RangeFuncOwn
import Derived.WideKeyMaps
import Derived.DeepKeys4
import Derived.Carry
import Derived.Laws.CopyRow
import Derived.Laws.Strings
import Derived.WalkArith
import Derived.Laws.Closers25b
import Derived.ProofKit
import Derived.OpenShut
import Derived.LaidMore
import Derived.Lay
import Derived.Stop.Joined
import Derived.ChangeOld
import Derived.SizedLaws
import Derived.Deep.Slices
import Derived.Deep.Fields
import Derived.ChangeSame
import Derived.Lib.SmallJoins
import Derived.Laws.MakeOwn
import Derived.Shelf.Sort.Plain
import Derived.Sort.OwnSortedInts
import Derived.SevenTiedAt
import Derived.Test.YtekkpcpbnonkaaaGreatDoorZf
section
set_option linter.unusedSimpArgs false
set_option linter.unusedVariables false
namespace Go.Proofs.YtekkpcpbnonkaaaGreatDoor.Rv
open Go.RowKit Go
open Go.K (setd setn ev nth over cl eI eP eT setM setF)
attribute [local irreducible] K.blk K.row
theorem sizeT : Tryz.prog.types.size = 190 := by kernel_rfl
theorem row101 : 91 < Tryz.prog.types.size := by rw [sizeT]; decide
theorem key101 : Tryz.prog.keyTypeAt 10 91 = true := by kernel_rfl
theorem wide101 : (match Tryz.prog.underlying 91 with | some (.array _ _) | some (.struct _) => true | _ => false) = true := by kernel_rfl
theorem ulC : Tryz.prog.underlying 85 = some (.map 91 3) := by kernel_rfl
theorem k2_101 : K.key2 Tryz.prog 91 = true := by kernel_rfl
set_option maxRecDepth 100000 in
theorem mapC : K.MapT Tryz.prog 85 91 := ⟨⟨3, ulC, fun w => by kernel_rfl⟩, deep_law_laid laidOut (m := 10) (by omega) row101 key101 wide101⟩
theorem form101 (x y : Int) : (Value.agg #[.int .i64 x, .int .i64 y]).formed Tryz.prog 91 = true := by kernel_rfl
theorem keyC {x y : Int} (hx : -100000 ≤ x ∧ x ≤ 100000) (hy : -100000 ≤ y ∧ y ≤ 100000) : ∃ q, keyOf Tryz.prog 91 (.agg #[.int .i64 x, .int .i64 y]) = some q :=
  K.keyOf_2 k2_101 (by rw [sizeT]; decide) (form101 x y) (WalkArith.wf_i64 (by omega)) (WalkArith.wf_i64 (by omega))
theorem keyCs {r : List RvT} {lv fx : List Int} {kvs : List (Value × Int)} (g : Good r) (h : KnOk r lv fx kvs) : ∀ p ∈ kvs, ∃ q, keyOf Tryz.prog 91 p.1 = some q := fun p hp => by
  obtain ⟨a, l, e, ha, hl, _⟩ := h p hp
  have := g.n
  rw [e]
  exact keyC (by omega) (by omega)
theorem bl101 (x y : Int) : K.Bl Tryz.prog 91 [(0, .int .i64 x), (1, .int .i64 y)] (.agg #[.int .i64 x, .int .i64 y]) := fun w => by kernel_rfl
def Go77 (r : List RvT) (A : Option Addr) (c q : Nat) (lv fx : List Int) (QL QF : Option Addr) (cL cF bm bc f : Nat) (w0 : World) : Prop :=
  ∀ {a : Nat} {low : Int} {kvs : List (Value × Int)} {T : List K.Chunk} {w : World}, K.St w0 (K.mq bm none kvs :: K.blk bc 87 [.pointer (some ⟨q, 0, none⟩), .slice QL lv.length cL, .map (some bm), .slice QF fx.length cF, .int .i64 ((mthS r : Nat) : Int)] :: K.row (.slice QL lv.length cL) 3 1 lv.length (lv.flatMap K.eI) :: K.row (.slice QF fx.length cF) 3 1 fx.length (fx.flatMap K.eI) :: K.blk q 82 (.slice A r.length c :: dcell (drT r)) :: T) w → KnOk r lv fx kvs → a < r.length → -9000 ≤ low ∧ low ≤ 9000 → f = r.length + 1 - dep r a → Calls Tryz.prog 42 [.pointer (some ⟨bc, 0, none⟩), .agg #[.int .i64 (a : Int), .int .i64 low]].toArray w (K.RetU (fun z : Int × List (Value × Int) => z.1 = costF r lv fx f a low ∧ KnOk r lv fx z.2) (fun z => .int .i64 z.1) w0 (fun z => K.mq bm none z.2 :: K.blk bc 87 [.pointer (some ⟨q, 0, none⟩), .slice QL lv.length cL, .map (some bm), .slice QF fx.length cF, .int .i64 ((mthS r : Nat) : Int)] :: K.row (.slice QL lv.length cL) 3 1 lv.length (lv.flatMap K.eI) :: K.row (.slice QF fx.length cF) 3 1 fx.length (fx.flatMap K.eI) :: K.blk q 82 (.slice A r.length c :: dcell (drT r)) :: T))

set_option maxRecDepth 100000 in
set_option maxHeartbeats 4000000 in
theorem c77_s {r : List RvT} {A : Option Addr} {c q : Nat} {w0 : World} (hR : K.Rd w0 A 4 eR r) (g : Good r) {lv fx : List Int} {QL QF : Option Addr} {cL cF bm bc : Nat} (hlv : ∀ x ∈ lv, -4500 ≤ x ∧ x ≤ 9000) (hll : lv.length ≤ 27) (hfl : fx.length ≤ 9) (hqL : lv.length = 0 ∨ ∃ b, QL = some ⟨b, 0, none⟩) (hqF : fx.length = 0 ∨ ∃ b, QF = some ⟨b, 0, none⟩) {f : Nat} (IH : Go77 r A c q lv fx QL QF cL cF bm bc f w0) {a : Nat} {low : Int} {kvs : List (Value × Int)} {T : List K.Chunk} {w : World} (hst : K.St w0 (K.mq bm none kvs :: K.blk bc 87 [.pointer (some ⟨q, 0, none⟩), .slice QL lv.length cL, .map (some bm), .slice QF fx.length cF, .int .i64 ((mthS r : Nat) : Int)] :: K.row (.slice QL lv.length cL) 3 1 lv.length (lv.flatMap K.eI) :: K.row (.slice QF fx.length cF) 3 1 fx.length (fx.flatMap K.eI) :: K.blk q 82 (.slice A r.length c :: dcell (drT r)) :: T) w) (hkn : KnOk r lv fx kvs) (ha : a < r.length) (hlo : -9000 ≤ low ∧ low ≤ 9000) (hf : f + 1 = r.length + 1 - dep r a) :
    Calls Tryz.prog 42 [.pointer (some ⟨bc, 0, none⟩), .agg #[.int .i64 (a : Int), .int .i64 low]].toArray w (K.RetU (fun z : Int × List (Value × Int) => z.1 = costF r lv fx (f + 1) a low ∧ KnOk r lv fx z.2) (fun z => .int .i64 z.1) w0 (fun z => K.mq bm none z.2 :: K.blk bc 87 [.pointer (some ⟨q, 0, none⟩), .slice QL lv.length cL, .map (some bm), .slice QF fx.length cF, .int .i64 ((mthS r : Nat) : Int)] :: K.row (.slice QL lv.length cL) 3 1 lv.length (lv.flatMap K.eI) :: K.row (.slice QF fx.length cF) 3 1 fx.length (fx.flatMap K.eI) :: K.blk q 82 (.slice A r.length c :: dcell (drT r)) :: T)) := by
  have hgn := g.n
  have hda := (dep_is g ha).1
  have hdl := DM_le g ha
  have hpa := g.p a ha
  have hmt := mth_is g
  have hdr := riv_at (f := drT r) (S := .slice A r.length c) (i := a) (k := mthS r) (by omega) (by omega)
  rw [drT_in ha hmt.1, drp_mth g ha] at hdr
  refine K.enterU (args := [.pointer (some ⟨bc, 0, none⟩), .agg #[.int .i64 (a : Int), .int .i64 low]]) Tryz.func42 rfl (n := 132) rfl hst ?_
  simp only [List.replicate, List.cons_append, List.nil_append]
  refine sr ?_
  refine K.seq_new (K.box) rfl ?_
  intro b3
  refine zN ?_
  refine K.permH (L' := _ :: _ :: _ :: _ :: _ :: _ :: _) (List.Perm.trans (List.perm_middle (l₁ := [_])) (List.Perm.cons _ (List.Perm.trans (List.perm_middle (l₁ := [_])) (List.Perm.cons _ (List.Perm.trans (List.perm_middle (l₁ := [_])) (List.Perm.cons _ (List.Perm.trans (List.perm_middle (l₁ := [_])) (List.Perm.cons _ (List.Perm.trans (List.perm_middle (l₁ := [_])) (List.Perm.cons _ (List.Perm.refl _))))))))))) ?_
  refine qa ?_
  refine sn ?_
  refine K.seq ?_
  refine K.seq ?_
  refine K.draw_L [] Tryz_mixed ?_
  refine K.d_pure 0 rfl (K.move) (by kernel_rfl) rfl ?_
  refine zn ?_
  refine K.d_pure 1 rfl (K.nilCheck rfl) (by kernel_rfl) rfl ?_
  refine zn ?_
  refine K.d_pure 2 rfl (K.fieldAddr_lit fo_87_2 rfl) (by kernel_rfl) rfl ?_
  refine zn ?_
  refine K.d_mem 3 rfl (K.load1_own one_85 rfl (K.m1) rfl) (fun _ h => h) (by kernel_rfl) (by kernel_rfl) rfl ?_
  refine zN ?_
  refine K.d_mem 4 rfl (K.loadA_own ag_91 rfl (K.m5) rfl) (fun _ h => h) (by kernel_rfl) (by kernel_rfl) rfl ?_
  refine zN ?_
  refine K.d_loud 5 rfl (K.lookupOk_mq mapC rfl rfl (K.m0) (keyC (by omega) (by omega)) (keyCs g hkn)) (fun _ h => h) (by kernel_rfl) rfl ?_
  rintro ⟨n21, ok21⟩ hn21
  refine zN ?_
  refine K.d_pure 6 rfl (K.move) (by kernel_rfl) rfl ?_
  refine zn ?_
  refine K.d_pure 7 rfl (K.extract rfl rfl) (by kernel_rfl) rfl ?_
  refine zn ?_
  refine K.d_pure 8 rfl (K.extract rfl rfl) (by kernel_rfl) rfl ?_
  refine zn ?_
  refine K.d_pure 9 rfl (K.assign) (by kernel_rfl) rfl ?_
  refine zn ?_
  refine K.d_pure 10 rfl (K.assign) (by kernel_rfl) rfl ?_
  refine zn ?_
  refine K.d_done (by kernel_rfl) ?_
  refine K.norm_then ?_
  refine sr ?_
  refine qm ?_
  refine sn ?_
  refine K.cond rfl (fun ht24 => ?_) (fun ht24 => ?_)
  · try replace ht24 := of_decide_eq_true ht24
    have hnv : n21 = costF r lv fx (f + 1) a low := by
      rcases hn21 with ⟨h, _⟩ | ⟨_, h⟩
      · have h1 : ok21 = false := h
        rw [h1] at ht24; cases ht24
      · rw [hf]; exact kn_at hkn h
    refine sr ?_
    refine qm ?_
    refine qa ?_
    refine sn ?_
    refine K.ret ?_
    refine K.ret_then ?_
    refine K.end_ret (fun w _ => K.res_tmp rfl w) ?_
    exact K.retsU (n21, kvs) ⟨hnv, hkn⟩ rfl ((List.Sublist.cons_cons _ (List.Sublist.cons_cons _ (List.Sublist.cons_cons _ (List.Sublist.cons_cons _ (List.Sublist.cons_cons _ (List.Sublist.cons _ (List.Sublist.refl _))))))))
  try replace ht24 := of_decide_eq_false ht24
  refine K.skip ?_
  refine K.norm_then ?_
  refine sr ?_
  refine qa ?_
  refine sn ?_
  refine K.seq ?_
  refine sr ?_
  refine qm ?_
  refine qp (K.nilCheck rfl) ?_
  refine qp (K.fieldAddr_lit fo_87_1 rfl) ?_
  refine K.seq_sil (K.load1_own one_28 rfl (K.m1) rfl) rfl ?_
  refine zN ?_
  refine qp (K.len_sl sl_28 rfl) ?_
  refine qm ?_
  refine sn ?_
  refine K.block ?_
  refine K.loopW [7, 31] [9, 10, 11, 12, 13, 14, 32, 33, 34, 35, 36, 37, 38, 39, 40, 41, 42, 43, 44, 45, 46, 47, 48, 49, 50, 51, 52, 53, 54, 55, 56, 57, 58, 59, 60, 61, 62, 63, 64, 65, 66, 67, 68, 69, 70, 71, 72, 73, 74, 75, 76, 77, 78, 79, 80, 81, 82, 83, 84, 85, 86, 87, 88, 89, 90, 91, 92, 93, 94, 95, 96, 97, 98, 99, 100, 101, 102, 103, 104, 105, 106, 107, 108, 109, 110, 111, 112, 113, 114, 115, 116, 117, 118, 119, 120, 121, 122, 123, 124, 125, 126] (fun vi L => ∃ (j : Nat) (kvs1 : List (Value × Int)), vi = [.int .i64 (minF (costF r lv fx f) r lv fx a low j), .int .i64 (j : Int)] ∧ L = K.mq bm none kvs1 :: K.blk bc 87 [.pointer (some ⟨q, 0, none⟩), .slice QL lv.length cL, .map (some bm), .slice QF fx.length cF, .int .i64 ((mthS r : Nat) : Int)] :: K.row (.slice QL lv.length cL) 3 1 lv.length (lv.flatMap K.eI) :: K.row (.slice QF fx.length cF) 3 1 fx.length (fx.flatMap K.eI) :: K.blk q 82 (.slice A r.length c :: dcell (drT r)) :: K.blk b3 91 [.int .i64 (a : Int), .int .i64 low] :: T ∧ KnOk r lv fx kvs1 ∧ j ≤ lv.length) (fun vi => lv.length - (intOf (K.nth vi 1)).toNat) ?_ ?_
  · exact ⟨0, kvs, rfl, rfl, hkn, Nat.zero_le _⟩
  intro vi vr L hJ
  obtain ⟨j, kvs1, rfl, rfl, hkn1, hjn⟩ := hJ
  try dsimp only [setd, setn, ev, nth, over, cl, eI, eP, eT, eR, setM, setF, List.map, List.append, List.drop, List.take]
  refine sr ?_
  refine qp (K.lss rfl rfl) ?_
  refine sn ?_
  refine K.seq ?_
  refine K.cond rfl (fun ht32 => ?_) (fun ht32 => ?_)
  · try replace ht32 := of_decide_eq_true ht32
    have hj : j < lv.length := by omega
    have hlj := hlv _ (K.gt_mem hj)
    have hmb := minF_bd' (lv := lv) (fx := fx) (low := low) g ha (cost_bd (lv := lv) (fx := fx) g f) j
    refine K.skip ?_
    refine K.norm_then ?_
    refine K.seq ?_
    refine K.block ?_
    refine sr ?_
    refine K.seq_ix (M := [K.row (.slice QL lv.length cL) 3 1 lv.length (lv.flatMap K.eI)]) _ (K.Sl.own (w0 := w0) (t := 3) (c := cL) (e := K.eI) hqL (fun _ => rfl)) sl_28 rfl rfl rfl (by omega) rfl ?_
    intro p33 hp33
    refine zN ?_
    refine K.seq_sil (K.load1 one_3 rfl (hp33.at1 (K.m2))) rfl ?_
    refine zN ?_
    refine qa ?_
    refine sn ?_
    refine K.seq ?_
    refine K.draw_L [] Tryz_mixed ?_
    refine K.d_pure 0 rfl (K.move) (by kernel_rfl) rfl ?_
    refine zn ?_
    refine K.d_pure 1 rfl (K.move) (by kernel_rfl) rfl ?_
    refine zn ?_
    refine K.d_pure 2 rfl (K.nilCheck rfl) (by kernel_rfl) rfl ?_
    refine zn ?_
    refine K.d_pure 3 rfl (K.fieldAddr_lit fo_87_0 rfl) (by kernel_rfl) rfl ?_
    refine zn ?_
    refine K.d_mem 4 rfl (K.load1_own one_72 rfl (K.m1) rfl) (fun _ h => h) (by kernel_rfl) (by kernel_rfl) rfl ?_
    refine zN ?_
    refine K.d_pure 5 rfl (K.fieldAddr_lit fo_91_0 rfl) (by kernel_rfl) rfl ?_
    refine zn ?_
    refine K.d_mem 6 rfl (K.load1_own one_3 rfl (K.m5) rfl) (fun _ h => h) (by kernel_rfl) (by kernel_rfl) rfl ?_
    refine zN ?_
    refine K.d_pure 7 rfl (K.move) (by kernel_rfl) rfl ?_
    refine zn ?_
    refine K.d_pure 8 rfl (K.nilCheck rfl) (by kernel_rfl) rfl ?_
    refine zn ?_
    refine K.d_pure 9 rfl (K.fieldAddr_lit fo_87_4 rfl) (by kernel_rfl) rfl ?_
    refine zn ?_
    refine K.d_mem 10 rfl (K.load1_own one_3 rfl (K.m1) rfl) (fun _ h => h) (by kernel_rfl) (by kernel_rfl) rfl ?_
    refine zN ?_
    refine K.d_pure 11 rfl (K.nilCheck rfl) (by kernel_rfl) rfl ?_
    refine zn ?_
    refine K.d_pure 12 rfl (K.fieldAddr_lit fo_82_1 rfl) (by kernel_rfl) rfl ?_
    refine zn ?_
    refine K.d_pure 13 rfl (K.indexAddr_ar ar_80 rfl rfl (by omega) (by omega)) (by kernel_rfl) rfl ?_
    refine zN ?_
    refine K.d_pure 14 rfl (K.indexAddr_ar ar_79 rfl rfl (by omega) (by omega)) (by kernel_rfl) rfl ?_
    refine zN ?_
    refine K.d_mem 15 rfl (K.load_at one_3 rfl (K.PtrL.own' ((K.m4))) hdr) (fun _ h => h) (by kernel_rfl) (by kernel_rfl) rfl ?_
    refine zN ?_
    refine K.d_pure 16 rfl (K.add_i64 rfl rfl (by omega)) (by kernel_rfl) rfl ?_
    refine zn ?_
    refine K.d_pure 17 rfl (K.assign) (by kernel_rfl) rfl ?_
    refine zn ?_
    refine K.d_done (by kernel_rfl) ?_
    refine K.norm_then ?_
    refine K.seq ?_
    refine K.seq ?_
    refine K.draw_L [] Tryz_mixed ?_
    refine K.d_pure 0 rfl (K.move) (by kernel_rfl) rfl ?_
    refine zn ?_
    refine K.d_pure 1 rfl (K.fieldAddr_lit fo_91_1 rfl) (by kernel_rfl) rfl ?_
    refine zn ?_
    refine K.d_mem 2 rfl (K.load1_own one_3 rfl (K.m5) rfl) (fun _ h => h) (by kernel_rfl) (by kernel_rfl) rfl ?_
    refine zN ?_
    refine K.d_pure 3 rfl (K.lss rfl rfl) (by kernel_rfl) rfl ?_
    refine zn ?_
    refine K.d_pure 4 rfl (K.move) (by kernel_rfl) rfl ?_
    refine zn ?_
    refine K.dsplit 56 rfl (fun hg56 => ?_) (fun hg56 => ?_)
    · try replace hg56 := of_decide_eq_true hg56
      refine K.d_skip 5 rfl (by kernel_rfl) rfl ?_
      refine zN ?_
      refine K.d_skip 6 rfl (by kernel_rfl) rfl ?_
      refine zN ?_
      refine K.d_skip 7 rfl (by kernel_rfl) rfl ?_
      refine zN ?_
      refine K.d_pure 8 rfl (K.pick_t rfl) (by kernel_rfl) rfl ?_
      refine zn ?_
      refine K.d_pure 9 rfl (K.move) (by kernel_rfl) rfl ?_
      refine zn ?_
      refine K.d_skip 10 rfl (by kernel_rfl) rfl ?_
      refine zN ?_
      refine K.d_skip 11 rfl (by kernel_rfl) rfl ?_
      refine zN ?_
      refine K.d_skip 12 rfl (by kernel_rfl) rfl ?_
      refine zN ?_
      refine K.d_skip 13 rfl (by kernel_rfl) rfl ?_
      refine zN ?_
      refine K.d_skip 14 rfl (by kernel_rfl) rfl ?_
      refine zN ?_
      refine K.d_skip 15 rfl (by kernel_rfl) rfl ?_
      refine zN ?_
      refine K.d_skip 16 rfl (by kernel_rfl) rfl ?_
      refine zN ?_
      refine K.d_skip 17 rfl (by kernel_rfl) rfl ?_
      refine zN ?_
      refine K.d_skip 18 rfl (by kernel_rfl) rfl ?_
      refine zN ?_
      refine K.d_skip 19 rfl (by kernel_rfl) rfl ?_
      refine zN ?_
      refine K.d_skip 20 rfl (by kernel_rfl) rfl ?_
      refine zN ?_
      refine K.d_skip 21 rfl (by kernel_rfl) rfl ?_
      refine zN ?_
      refine K.d_skip 22 rfl (by kernel_rfl) rfl ?_
      refine zN ?_
      refine K.d_skip 23 rfl (by kernel_rfl) rfl ?_
      refine zN ?_
      refine K.d_skip 24 rfl (by kernel_rfl) rfl ?_
      refine zN ?_
      refine K.d_skip 25 rfl (by kernel_rfl) rfl ?_
      refine zN ?_
      refine K.d_skip 26 rfl (by kernel_rfl) rfl ?_
      refine zN ?_
      refine K.d_skip 27 rfl (by kernel_rfl) rfl ?_
      refine zN ?_
      refine K.d_skip 28 rfl (by kernel_rfl) rfl ?_
      refine zN ?_
      refine K.d_skip 29 rfl (by kernel_rfl) rfl ?_
      refine zN ?_
      refine K.d_pure 30 rfl (K.pick_t rfl) (by kernel_rfl) rfl ?_
      refine zn ?_
      refine K.d_done (by kernel_rfl) ?_
      refine K.norm_then ?_
      refine K.cond_true rfl ?_
      refine K.exit ?_
      refine K.exit_then ?_
      refine K.exit_here ?_
      refine K.norm_then ?_
      refine K.region_lit ?_
      refine qp (K.add_i64 rfl rfl (by omega)) ?_
      refine qm ?_
      refine K.seq_nil ?_
      have hsk : skipB r fx a low (lv.getD j default) = true := skip_y (.inl hg56)
      have hmn := minF_skip (rec := costF r lv fx f) hsk
      exact K.round_endW (L'' := K.mq bm none kvs1 :: K.blk bc 87 [.pointer (some ⟨q, 0, none⟩), .slice QL lv.length cL, .map (some bm), .slice QF fx.length cF, .int .i64 ((mthS r : Nat) : Int)] :: K.row (.slice QL lv.length cL) 3 1 lv.length (lv.flatMap K.eI) :: K.row (.slice QF fx.length cF) 3 1 fx.length (fx.flatMap K.eI) :: K.blk q 82 (.slice A r.length c :: dcell (drT r)) :: K.blk b3 91 [.int .i64 (a : Int), .int .i64 low] :: T) [.int .i64 (minF (costF r lv fx f) r lv fx a low j), .int .i64 ((j : Int) + 1)] ⟨j + 1, kvs1, by rw [hmn]; rfl, rfl, hkn1, by omega⟩ (by simp [K.nth, intOf]; omega) ((List.Sublist.refl _)) (by kernel_rfl)
    try replace hg56 := of_decide_eq_false hg56
    refine K.d_pure 5 rfl (K.move) (by kernel_rfl) rfl ?_
    refine zn ?_
    refine K.d_new 6 rfl (K.buildSlice (bs1 _)) (fun _ h => h) (by kernel_rfl) rfl ?_
    intro b58
    refine zN ?_
    refine K.d_call 7 rfl (K.call_g cal_64 (fun F w hF hw => c46_1 hw (hF _ (K.m0)))) (fun _ h => K.tl h) (by kernel_rfl) rfl ?_
    refine zN ?_
    refine K.d_pure 8 rfl (K.pick_f rfl) (by kernel_rfl) rfl ?_
    refine zn ?_
    refine K.d_pure 9 rfl (K.move) (by kernel_rfl) rfl ?_
    refine zn ?_
    refine K.dsplit 61 rfl (fun hg61 => ?_) (fun hg61 => ?_)
    · try replace hg61 := of_decide_eq_true hg61
      refine K.d_skip 10 rfl (by kernel_rfl) rfl ?_
      refine zN ?_
      refine K.d_skip 11 rfl (by kernel_rfl) rfl ?_
      refine zN ?_
      refine K.d_skip 12 rfl (by kernel_rfl) rfl ?_
      refine zN ?_
      refine K.d_skip 13 rfl (by kernel_rfl) rfl ?_
      refine zN ?_
      refine K.d_skip 14 rfl (by kernel_rfl) rfl ?_
      refine zN ?_
      refine K.d_skip 15 rfl (by kernel_rfl) rfl ?_
      refine zN ?_
      refine K.d_skip 16 rfl (by kernel_rfl) rfl ?_
      refine zN ?_
      refine K.d_skip 17 rfl (by kernel_rfl) rfl ?_
      refine zN ?_
      refine K.d_skip 18 rfl (by kernel_rfl) rfl ?_
      refine zN ?_
      refine K.d_skip 19 rfl (by kernel_rfl) rfl ?_
      refine zN ?_
      refine K.d_skip 20 rfl (by kernel_rfl) rfl ?_
      refine zN ?_
      refine K.d_skip 21 rfl (by kernel_rfl) rfl ?_
      refine zN ?_
      refine K.d_skip 22 rfl (by kernel_rfl) rfl ?_
      refine zN ?_
      refine K.d_skip 23 rfl (by kernel_rfl) rfl ?_
      refine zN ?_
      refine K.d_skip 24 rfl (by kernel_rfl) rfl ?_
      refine zN ?_
      refine K.d_skip 25 rfl (by kernel_rfl) rfl ?_
      refine zN ?_
      refine K.d_skip 26 rfl (by kernel_rfl) rfl ?_
      refine zN ?_
      refine K.d_skip 27 rfl (by kernel_rfl) rfl ?_
      refine zN ?_
      refine K.d_skip 28 rfl (by kernel_rfl) rfl ?_
      refine zN ?_
      refine K.d_skip 29 rfl (by kernel_rfl) rfl ?_
      refine zN ?_
      refine K.d_pure 30 rfl (K.pick_t rfl) (by kernel_rfl) rfl ?_
      refine zn ?_
      refine K.d_done (by kernel_rfl) ?_
      refine K.norm_then ?_
      refine K.cond_true rfl ?_
      refine K.exit ?_
      refine K.exit_then ?_
      refine K.exit_here ?_
      refine K.norm_then ?_
      refine K.region_lit ?_
      refine qp (K.add_i64 rfl rfl (by omega)) ?_
      refine qm ?_
      refine K.seq_nil ?_
      have hsk : skipB r fx a low (lv.getD j default) = true := skip_y (.inr (.inl hg61))
      have hmn := minF_skip (rec := costF r lv fx f) hsk
      exact K.round_endW (L'' := K.mq bm none kvs1 :: K.blk bc 87 [.pointer (some ⟨q, 0, none⟩), .slice QL lv.length cL, .map (some bm), .slice QF fx.length cF, .int .i64 ((mthS r : Nat) : Int)] :: K.row (.slice QL lv.length cL) 3 1 lv.length (lv.flatMap K.eI) :: K.row (.slice QF fx.length cF) 3 1 fx.length (fx.flatMap K.eI) :: K.blk q 82 (.slice A r.length c :: dcell (drT r)) :: K.blk b3 91 [.int .i64 (a : Int), .int .i64 low] :: T) [.int .i64 (minF (costF r lv fx f) r lv fx a low j), .int .i64 ((j : Int) + 1)] ⟨j + 1, kvs1, by rw [hmn]; rfl, rfl, hkn1, by omega⟩ (by simp [K.nth, intOf]; omega) ((List.Sublist.cons _ (List.Sublist.refl _))) (by kernel_rfl)
    try replace hg61 := of_decide_eq_false hg61
    refine K.d_pure 10 rfl (K.fieldAddr_lit fo_91_0 rfl) (by kernel_rfl) rfl ?_
    refine zn ?_
    refine K.d_mem 11 rfl (K.load1_own one_3 rfl (K.m5) rfl) (fun _ h => K.tl h) (by kernel_rfl) (by kernel_rfl) rfl ?_
    refine zN ?_
    refine K.d_pure 12 rfl (K.move) (by kernel_rfl) rfl ?_
    refine zn ?_
    refine K.d_pure 13 rfl (K.nilCheck rfl) (by kernel_rfl) rfl ?_
    refine zn ?_
    refine K.d_pure 14 rfl (K.fieldAddr_lit fo_87_3 rfl) (by kernel_rfl) rfl ?_
    refine zn ?_
    refine K.d_mem 15 rfl (K.load1_own one_28 rfl (K.m1) rfl) (fun _ h => K.tl h) (by kernel_rfl) (by kernel_rfl) rfl ?_
    refine zN ?_
    refine K.d_pure 16 rfl (K.len_sl sl_28 rfl) (by kernel_rfl) rfl ?_
    refine zn ?_
    refine K.d_pure 17 rfl (K.lss rfl rfl) (by kernel_rfl) rfl ?_
    refine zn ?_
    refine K.d_pure 18 rfl (K.move) (by kernel_rfl) rfl ?_
    refine zn ?_
    refine K.dsplit 70 rfl (fun hg70 => ?_) (fun hg70 => ?_)
    · try replace hg70 := of_decide_eq_true hg70
      have hafx : a < fx.length := by omega
      refine K.d_pure 19 rfl (K.move) (by kernel_rfl) rfl ?_
      refine zn ?_
      refine K.d_pure 20 rfl (K.nilCheck rfl) (by kernel_rfl) rfl ?_
      refine zn ?_
      refine K.d_pure 21 rfl (K.fieldAddr_lit fo_87_3 rfl) (by kernel_rfl) rfl ?_
      refine zn ?_
      refine K.d_mem 22 rfl (K.load1_own one_28 rfl (K.m1) rfl) (fun _ h => K.tl h) (by kernel_rfl) (by kernel_rfl) rfl ?_
      refine zN ?_
      refine K.d_pure 23 rfl (K.fieldAddr_lit fo_91_0 rfl) (by kernel_rfl) rfl ?_
      refine zn ?_
      refine K.d_mem 24 rfl (K.load1_own one_3 rfl (K.m5) rfl) (fun _ h => K.tl h) (by kernel_rfl) (by kernel_rfl) rfl ?_
      refine zN ?_
      refine K.d_ix (M := [K.row (.slice QF fx.length cF) 3 1 fx.length (fx.flatMap K.eI)]) 25 a rfl (K.Sl.own (w0 := w0) (t := 3) (c := cF) (e := K.eI) hqF (fun _ => rfl)) sl_28 rfl rfl (by omega) (by omega) (by kernel_rfl) rfl ?_
      intro p77 hp77
      refine zN ?_
      refine K.d_mem 26 rfl (K.load1 one_3 rfl (hp77.at1 (K.m3))) (fun _ h => K.tl h) (by kernel_rfl) (by kernel_rfl) rfl ?_
      refine zN ?_
      refine K.d_pure 27 rfl (K.move) (by kernel_rfl) rfl ?_
      refine zn ?_
      refine K.d_pure 28 rfl (K.neq rfl rfl) (by kernel_rfl) rfl ?_
      refine zn ?_
      refine K.d_pure 29 rfl (K.pick_t rfl) (by kernel_rfl) rfl ?_
      refine zn ?_
      refine K.d_pure 30 rfl (K.pick_f rfl) (by kernel_rfl) rfl ?_
      refine zn ?_
      refine K.d_done (by kernel_rfl) ?_
      refine K.norm_then ?_
      refine K.cond rfl (fun ht82 => ?_) (fun ht82 => ?_)
      · try replace ht82 := of_decide_eq_true ht82
        refine K.exit ?_
        refine K.exit_then ?_
        refine K.exit_here ?_
        refine K.norm_then ?_
        refine K.region_lit ?_
        refine qp (K.add_i64 rfl rfl (by omega)) ?_
        refine qm ?_
        refine K.seq_nil ?_
        have hsk : skipB r fx a low (lv.getD j default) = true := skip_y (.inr (.inr ⟨by omega, ht82⟩))
        have hmn := minF_skip (rec := costF r lv fx f) hsk
        exact K.round_endW (L'' := K.mq bm none kvs1 :: K.blk bc 87 [.pointer (some ⟨q, 0, none⟩), .slice QL lv.length cL, .map (some bm), .slice QF fx.length cF, .int .i64 ((mthS r : Nat) : Int)] :: K.row (.slice QL lv.length cL) 3 1 lv.length (lv.flatMap K.eI) :: K.row (.slice QF fx.length cF) 3 1 fx.length (fx.flatMap K.eI) :: K.blk q 82 (.slice A r.length c :: dcell (drT r)) :: K.blk b3 91 [.int .i64 (a : Int), .int .i64 low] :: T) [.int .i64 (minF (costF r lv fx f) r lv fx a low j), .int .i64 ((j : Int) + 1)] ⟨j + 1, kvs1, by rw [hmn]; rfl, rfl, hkn1, by omega⟩ (by simp [K.nth, intOf]; omega) ((List.Sublist.cons _ (List.Sublist.refl _))) (by kernel_rfl)
      try replace ht82 := of_decide_eq_false ht82
      have hskn : skipB r fx a low (lv.getD j default) = false := skip_n hg56 (Decidable.not_not.1 hg61) (fun _ => Decidable.not_not.1 ht82)
      have hsn := skip_no hskn
      refine K.skip ?_
      refine K.norm_then ?_
      refine K.seq ?_
      refine K.draw_L [] Tryz_mixed ?_
      refine K.d_pure 0 rfl (K.move) (by kernel_rfl) rfl ?_
      refine zn ?_
      refine K.d_pure 1 rfl (K.nilCheck rfl) (by kernel_rfl) rfl ?_
      refine zn ?_
      refine K.d_pure 2 rfl (K.fieldAddr_lit fo_87_0 rfl) (by kernel_rfl) rfl ?_
      refine zn ?_
      refine K.d_mem 3 rfl (K.load1_own one_72 rfl (K.m2) rfl) (fun _ h => h) (by kernel_rfl) (by kernel_rfl) rfl ?_
      refine zN ?_
      refine K.d_pure 4 rfl (K.fieldAddr_lit fo_91_0 rfl) (by kernel_rfl) rfl ?_
      refine zn ?_
      refine K.d_mem 5 rfl (K.load1_own one_3 rfl (K.m6) rfl) (fun _ h => h) (by kernel_rfl) (by kernel_rfl) rfl ?_
      refine zN ?_
      refine K.d_call 6 rfl (K.call_g cal_48 (fun F w hF hw => c54 (K.PtrL.now hw (hF _ (K.m5))) (K.blk_lt hw (hF _ (K.m5))) (hR.pass hw) ha)) (fun _ h => h) (by kernel_rfl) rfl ?_
      refine zN ?_
      refine K.d_pure 7 rfl (K.assign) (by kernel_rfl) rfl ?_
      refine zn ?_
      refine K.d_done (by kernel_rfl) ?_
      refine K.norm_then ?_
      refine sr ?_
      iterate 2 refine qm ?_
      refine qp (K.sub_i64 rfl rfl (by omega)) ?_
      iterate 2 refine qm ?_
      refine qp (K.sub_i64 rfl rfl (by omega)) ?_
      refine qp (K.Pure.eq (K.max_int rfl rfl) (show _ = Value.int .i64 (sumF (costF r lv fx f) r a (lv.getD j default) 0) from rfl)) ?_
      refine qa ?_
      refine sn ?_
      refine K.seq ?_
      refine K.seq ?_
      refine K.weak (List.Sublist.cons _ (List.Sublist.cons_cons _ (List.Sublist.cons_cons _ (List.Sublist.cons_cons _ (List.Sublist.cons_cons _ (List.Sublist.cons_cons _ (List.Sublist.cons_cons _ (List.Sublist.refl _)))))))) ?_
      refine K.region_lit ?_
      refine qm ?_
      refine qp (K.nilCheck rfl) ?_
      refine qp (K.fieldAddr_lit fo_87_0 rfl) ?_
      refine K.seq_sil (K.load1_own one_72 rfl (K.m1) rfl) rfl ?_
      refine zN ?_
      refine qp (K.nilCheck rfl) ?_
      refine qp (K.fieldAddr_lit fo_82_0 rfl) ?_
      refine K.seq_sil (K.load1_own one_78 rfl (K.m4) rfl) rfl ?_
      refine zN ?_
      refine qp (K.len_sl sl_78 rfl) ?_
      refine qm ?_
      refine sn ?_
      refine K.block ?_
      refine K.loopW [12, 105] [13, 14, 106, 107, 108, 109, 110, 111, 112, 113, 114, 115, 116, 117, 118, 119, 120, 121, 122] (fun vi L => ∃ (k : Nat) (kvs2 : List (Value × Int)), vi = [.int .i64 (sumF (costF r lv fx f) r a (lv.getD j default) k), .int .i64 (k : Int)] ∧ L = K.mq bm none kvs2 :: K.blk bc 87 [.pointer (some ⟨q, 0, none⟩), .slice QL lv.length cL, .map (some bm), .slice QF fx.length cF, .int .i64 ((mthS r : Nat) : Int)] :: K.row (.slice QL lv.length cL) 3 1 lv.length (lv.flatMap K.eI) :: K.row (.slice QF fx.length cF) 3 1 fx.length (fx.flatMap K.eI) :: K.blk q 82 (.slice A r.length c :: dcell (drT r)) :: K.blk b3 91 [.int .i64 (a : Int), .int .i64 low] :: T ∧ KnOk r lv fx kvs2 ∧ k ≤ r.length) (fun vi => r.length - (intOf (K.nth vi 1)).toNat) ?_ ?_
      · exact ⟨0, kvs1, rfl, rfl, hkn1, Nat.zero_le _⟩
      intro vi vr L hJ
      obtain ⟨k, kvs2, rfl, rfl, hkn2, hkn0⟩ := hJ
      try dsimp only [setd, setn, ev, nth, over, cl, eI, eP, eT, eR, setM, setF, List.map, List.append, List.drop, List.take]
      refine sr ?_
      refine qp (K.lss rfl rfl) ?_
      refine sn ?_
      refine K.seq ?_
      refine K.cond rfl (fun ht106 => ?_) (fun ht106 => ?_)
      · try replace ht106 := of_decide_eq_true ht106
        have hk : k < r.length := by omega
        have hsb := sumF_bd' (l := (lv.getD j default)) (cost_bd (lv := lv) (fx := fx) g f) (ownC_bd g ha hsn.2.1) k hkn0
        have hcb := cost_bd (lv := lv) (fx := fx) g f k hk (lv.getD j default)
        unfold neverS at hsb hcb
        refine K.skip ?_
        refine K.norm_then ?_
        refine K.seq ?_
        refine K.block ?_
        refine sr ?_
        refine qm ?_
        refine K.seq_ix (M := []) _ hR.sl sl_78 rfl rfl rfl (by omega) rfl ?_
        intro p108 hp108
        refine zN ?_
        refine K.seq_sil (K.loadA_p ag_34 rfl (hp108.any) rfl) rfl ?_
        refine zN ?_
        refine K.seq_new (K.alloc zr_34) rfl ?_
        intro b14
        refine zN ?_
        refine qa ?_
        refine K.seq_st (K.store_all sz_34 rfl rfl rfl rfl (K.rp0)) rfl ?_
        refine zN ?_
        refine sn ?_
        refine sr ?_
        refine qp (K.fieldAddr_lit fo_34_1 rfl) ?_
        refine K.seq_sil (K.load1_own one_3 rfl (K.m0) rfl) rfl ?_
        refine zN ?_
        refine qp (K.fieldAddr_lit fo_91_0 rfl) ?_
        refine K.seq_sil (K.load1_own one_3 rfl (K.m6) rfl) rfl ?_
        refine zN ?_
        refine qp (K.eql rfl rfl) ?_
        refine sn ?_
        refine K.cond rfl (fun ht114 => ?_) (fun ht114 => ?_)
        · try replace ht114 := of_decide_eq_true ht114
          have hdk : dep r k = dep r a + 1 := by
            have hm : (r.getD k default).dn ≠ -1 := by omega
            have h2 := dep_d g hk hm
            rw [ht114, Int.toNat_natCast] at h2
            exact h2
          refine K.weak (List.Sublist.cons _ (List.Sublist.cons_cons _ (List.Sublist.cons_cons _ (List.Sublist.cons_cons _ (List.Sublist.cons_cons _ (List.Sublist.cons_cons _ (List.Sublist.cons_cons _ (List.Sublist.refl _)))))))) ?_
          refine K.region_lit ?_
          iterate 4 refine qm ?_
          refine K.seq_pure (K.build (bl101 _ _)) rfl ?_
          refine zN ?_
          refine K.seq_upd (K.callU_f cal_42 (fun w hw => IH (a := k) (low := (lv.getD j default)) (T := K.blk b3 91 [.int .i64 (a : Int), .int .i64 low] :: T) hw hkn2 hk (by omega) (by omega))) rfl ?_
          rintro z120 hz120
          refine zN ?_
          obtain ⟨hz1, hz2⟩ := hz120
          have hz120 : z120.1 = costF r lv fx f k (lv.getD j default) ∧ KnOk r lv fx z120.2 := ⟨hz1, hz2⟩
          rw [hz1]
          refine zN ?_
          refine qp (K.add_i64 rfl rfl (by omega)) ?_
          refine qa ?_
          refine K.seq_nil ?_
          refine K.norm_block ?_
          refine K.norm_then ?_
          refine K.region_lit ?_
          refine qp (K.add_i64 rfl rfl (by omega)) ?_
          refine qm ?_
          refine K.seq_nil ?_
          have hsm := sumF_yes (rec := costF r lv fx f) (l := (lv.getD j default)) ht114
          exact K.round_endW (L'' := K.mq bm none z120.2 :: K.blk bc 87 [.pointer (some ⟨q, 0, none⟩), .slice QL lv.length cL, .map (some bm), .slice QF fx.length cF, .int .i64 ((mthS r : Nat) : Int)] :: K.row (.slice QL lv.length cL) 3 1 lv.length (lv.flatMap K.eI) :: K.row (.slice QF fx.length cF) 3 1 fx.length (fx.flatMap K.eI) :: K.blk q 82 (.slice A r.length c :: dcell (drT r)) :: K.blk b3 91 [.int .i64 (a : Int), .int .i64 low] :: T) [.int .i64 (sumF (costF r lv fx f) r a (lv.getD j default) k + costF r lv fx f k (lv.getD j default)), .int .i64 ((k : Int) + 1)] ⟨k + 1, z120.2, by rw [hsm]; rfl, rfl, hz120.2, by omega⟩ (by simp [K.nth, intOf]; omega) ((List.Sublist.refl _)) (by kernel_rfl)
        try replace ht114 := of_decide_eq_false ht114
        refine K.skip ?_
        refine K.norm_block ?_
        refine K.norm_then ?_
        refine K.region_lit ?_
        refine qp (K.add_i64 rfl rfl (by omega)) ?_
        refine qm ?_
        refine K.seq_nil ?_
        have hsm := sumF_no (rec := costF r lv fx f) (l := (lv.getD j default)) ht114
        exact K.round_endW (L'' := K.mq bm none kvs2 :: K.blk bc 87 [.pointer (some ⟨q, 0, none⟩), .slice QL lv.length cL, .map (some bm), .slice QF fx.length cF, .int .i64 ((mthS r : Nat) : Int)] :: K.row (.slice QL lv.length cL) 3 1 lv.length (lv.flatMap K.eI) :: K.row (.slice QF fx.length cF) 3 1 fx.length (fx.flatMap K.eI) :: K.blk q 82 (.slice A r.length c :: dcell (drT r)) :: K.blk b3 91 [.int .i64 (a : Int), .int .i64 low] :: T) [.int .i64 (sumF (costF r lv fx f) r a (lv.getD j default) k), .int .i64 ((k : Int) + 1)] ⟨k + 1, kvs2, by rw [hsm]; rfl, rfl, hkn2, by omega⟩ (by simp [K.nth, intOf]; omega) ((List.Sublist.cons _ (List.Sublist.refl _))) (by kernel_rfl)
      try replace ht106 := of_decide_eq_false ht106
      refine K.exit ?_
      refine K.exit_then ?_
      refine K.exit_then ?_
      refine K.exit_here ?_
      refine K.norm_then ?_
      refine K.region_lit ?_
      iterate 2 refine qm ?_
      refine qp (K.min_int rfl rfl) ?_
      refine qa ?_
      refine K.seq_nil ?_
      refine K.norm_block ?_
      refine K.norm_then ?_
      refine K.region_lit ?_
      refine qp (K.add_i64 rfl rfl (by omega)) ?_
      refine qm ?_
      refine K.seq_nil ?_
      have e0 : k = r.length := by omega
      subst e0
      have hmn := minF_more (rec := costF r lv fx f) hskn
      exact K.round_endW (L'' := K.mq bm none kvs2 :: K.blk bc 87 [.pointer (some ⟨q, 0, none⟩), .slice QL lv.length cL, .map (some bm), .slice QF fx.length cF, .int .i64 ((mthS r : Nat) : Int)] :: K.row (.slice QL lv.length cL) 3 1 lv.length (lv.flatMap K.eI) :: K.row (.slice QF fx.length cF) 3 1 fx.length (fx.flatMap K.eI) :: K.blk q 82 (.slice A r.length c :: dcell (drT r)) :: K.blk b3 91 [.int .i64 (a : Int), .int .i64 low] :: T) [.int .i64 (min (minF (costF r lv fx f) r lv fx a low j) (sumF (costF r lv fx f) r a (lv.getD j default) r.length)), .int .i64 ((j : Int) + 1)] ⟨j + 1, kvs2, by rw [hmn]; rfl, rfl, hkn2, by omega⟩ (by simp [K.nth, intOf]; omega) ((List.Sublist.refl _)) (by kernel_rfl)
    try replace hg70 := of_decide_eq_false hg70
    have hskn : skipB r fx a low (lv.getD j default) = false := skip_n hg56 (Decidable.not_not.1 hg61) (fun h => absurd (by omega) hg70)
    have hsn := skip_no hskn
    refine K.d_skip 19 rfl (by kernel_rfl) rfl ?_
    refine zN ?_
    refine K.d_skip 20 rfl (by kernel_rfl) rfl ?_
    refine zN ?_
    refine K.d_skip 21 rfl (by kernel_rfl) rfl ?_
    refine zN ?_
    refine K.d_skip 22 rfl (by kernel_rfl) rfl ?_
    refine zN ?_
    refine K.d_skip 23 rfl (by kernel_rfl) rfl ?_
    refine zN ?_
    refine K.d_skip 24 rfl (by kernel_rfl) rfl ?_
    refine zN ?_
    refine K.d_skip 25 rfl (by kernel_rfl) rfl ?_
    refine zN ?_
    refine K.d_skip 26 rfl (by kernel_rfl) rfl ?_
    refine zN ?_
    refine K.d_skip 27 rfl (by kernel_rfl) rfl ?_
    refine zN ?_
    refine K.d_skip 28 rfl (by kernel_rfl) rfl ?_
    refine zN ?_
    refine K.d_pure 29 rfl (K.pick_f rfl) (by kernel_rfl) rfl ?_
    refine zn ?_
    refine K.d_pure 30 rfl (K.pick_f rfl) (by kernel_rfl) rfl ?_
    refine zn ?_
    refine K.d_done (by kernel_rfl) ?_
    refine K.norm_then ?_
    refine K.cond_false rfl ?_
    refine K.skip ?_
    refine K.norm_then ?_
    refine K.seq ?_
    refine K.draw_L [] Tryz_mixed ?_
    refine K.d_pure 0 rfl (K.move) (by kernel_rfl) rfl ?_
    refine zn ?_
    refine K.d_pure 1 rfl (K.nilCheck rfl) (by kernel_rfl) rfl ?_
    refine zn ?_
    refine K.d_pure 2 rfl (K.fieldAddr_lit fo_87_0 rfl) (by kernel_rfl) rfl ?_
    refine zn ?_
    refine K.d_mem 3 rfl (K.load1_own one_72 rfl (K.m2) rfl) (fun _ h => h) (by kernel_rfl) (by kernel_rfl) rfl ?_
    refine zN ?_
    refine K.d_pure 4 rfl (K.fieldAddr_lit fo_91_0 rfl) (by kernel_rfl) rfl ?_
    refine zn ?_
    refine K.d_mem 5 rfl (K.load1_own one_3 rfl (K.m6) rfl) (fun _ h => h) (by kernel_rfl) (by kernel_rfl) rfl ?_
    refine zN ?_
    refine K.d_call 6 rfl (K.call_g cal_48 (fun F w hF hw => c54 (K.PtrL.now hw (hF _ (K.m5))) (K.blk_lt hw (hF _ (K.m5))) (hR.pass hw) ha)) (fun _ h => h) (by kernel_rfl) rfl ?_
    refine zN ?_
    refine K.d_pure 7 rfl (K.assign) (by kernel_rfl) rfl ?_
    refine zn ?_
    refine K.d_done (by kernel_rfl) ?_
    refine K.norm_then ?_
    refine sr ?_
    iterate 2 refine qm ?_
    refine qp (K.sub_i64 rfl rfl (by omega)) ?_
    iterate 2 refine qm ?_
    refine qp (K.sub_i64 rfl rfl (by omega)) ?_
    refine qp (K.Pure.eq (K.max_int rfl rfl) (show _ = Value.int .i64 (sumF (costF r lv fx f) r a (lv.getD j default) 0) from rfl)) ?_
    refine qa ?_
    refine sn ?_
    refine K.seq ?_
    refine K.seq ?_
    refine K.weak (List.Sublist.cons _ (List.Sublist.cons_cons _ (List.Sublist.cons_cons _ (List.Sublist.cons_cons _ (List.Sublist.cons_cons _ (List.Sublist.cons_cons _ (List.Sublist.cons_cons _ (List.Sublist.refl _)))))))) ?_
    refine K.region_lit ?_
    refine qm ?_
    refine qp (K.nilCheck rfl) ?_
    refine qp (K.fieldAddr_lit fo_87_0 rfl) ?_
    refine K.seq_sil (K.load1_own one_72 rfl (K.m1) rfl) rfl ?_
    refine zN ?_
    refine qp (K.nilCheck rfl) ?_
    refine qp (K.fieldAddr_lit fo_82_0 rfl) ?_
    refine K.seq_sil (K.load1_own one_78 rfl (K.m4) rfl) rfl ?_
    refine zN ?_
    refine qp (K.len_sl sl_78 rfl) ?_
    refine qm ?_
    refine sn ?_
    refine K.block ?_
    refine K.loopW [12, 105] [13, 14, 106, 107, 108, 109, 110, 111, 112, 113, 114, 115, 116, 117, 118, 119, 120, 121, 122] (fun vi L => ∃ (k : Nat) (kvs2 : List (Value × Int)), vi = [.int .i64 (sumF (costF r lv fx f) r a (lv.getD j default) k), .int .i64 (k : Int)] ∧ L = K.mq bm none kvs2 :: K.blk bc 87 [.pointer (some ⟨q, 0, none⟩), .slice QL lv.length cL, .map (some bm), .slice QF fx.length cF, .int .i64 ((mthS r : Nat) : Int)] :: K.row (.slice QL lv.length cL) 3 1 lv.length (lv.flatMap K.eI) :: K.row (.slice QF fx.length cF) 3 1 fx.length (fx.flatMap K.eI) :: K.blk q 82 (.slice A r.length c :: dcell (drT r)) :: K.blk b3 91 [.int .i64 (a : Int), .int .i64 low] :: T ∧ KnOk r lv fx kvs2 ∧ k ≤ r.length) (fun vi => r.length - (intOf (K.nth vi 1)).toNat) ?_ ?_
    · exact ⟨0, kvs1, rfl, rfl, hkn1, Nat.zero_le _⟩
    intro vi vr L hJ
    obtain ⟨k, kvs2, rfl, rfl, hkn2, hkn0⟩ := hJ
    try dsimp only [setd, setn, ev, nth, over, cl, eI, eP, eT, eR, setM, setF, List.map, List.append, List.drop, List.take]
    refine sr ?_
    refine qp (K.lss rfl rfl) ?_
    refine sn ?_
    refine K.seq ?_
    refine K.cond rfl (fun ht106 => ?_) (fun ht106 => ?_)
    · try replace ht106 := of_decide_eq_true ht106
      have hk : k < r.length := by omega
      have hsb := sumF_bd' (l := (lv.getD j default)) (cost_bd (lv := lv) (fx := fx) g f) (ownC_bd g ha hsn.2.1) k hkn0
      have hcb := cost_bd (lv := lv) (fx := fx) g f k hk (lv.getD j default)
      unfold neverS at hsb hcb
      refine K.skip ?_
      refine K.norm_then ?_
      refine K.seq ?_
      refine K.block ?_
      refine sr ?_
      refine qm ?_
      refine K.seq_ix (M := []) _ hR.sl sl_78 rfl rfl rfl (by omega) rfl ?_
      intro p108 hp108
      refine zN ?_
      refine K.seq_sil (K.loadA_p ag_34 rfl (hp108.any) rfl) rfl ?_
      refine zN ?_
      refine K.seq_new (K.alloc zr_34) rfl ?_
      intro b14
      refine zN ?_
      refine qa ?_
      refine K.seq_st (K.store_all sz_34 rfl rfl rfl rfl (K.rp0)) rfl ?_
      refine zN ?_
      refine sn ?_
      refine sr ?_
      refine qp (K.fieldAddr_lit fo_34_1 rfl) ?_
      refine K.seq_sil (K.load1_own one_3 rfl (K.m0) rfl) rfl ?_
      refine zN ?_
      refine qp (K.fieldAddr_lit fo_91_0 rfl) ?_
      refine K.seq_sil (K.load1_own one_3 rfl (K.m6) rfl) rfl ?_
      refine zN ?_
      refine qp (K.eql rfl rfl) ?_
      refine sn ?_
      refine K.cond rfl (fun ht114 => ?_) (fun ht114 => ?_)
      · try replace ht114 := of_decide_eq_true ht114
        have hdk : dep r k = dep r a + 1 := by
          have hm : (r.getD k default).dn ≠ -1 := by omega
          have h2 := dep_d g hk hm
          rw [ht114, Int.toNat_natCast] at h2
          exact h2
        refine K.weak (List.Sublist.cons _ (List.Sublist.cons_cons _ (List.Sublist.cons_cons _ (List.Sublist.cons_cons _ (List.Sublist.cons_cons _ (List.Sublist.cons_cons _ (List.Sublist.cons_cons _ (List.Sublist.refl _)))))))) ?_
        refine K.region_lit ?_
        iterate 4 refine qm ?_
        refine K.seq_pure (K.build (bl101 _ _)) rfl ?_
        refine zN ?_
        refine K.seq_upd (K.callU_f cal_42 (fun w hw => IH (a := k) (low := (lv.getD j default)) (T := K.blk b3 91 [.int .i64 (a : Int), .int .i64 low] :: T) hw hkn2 hk (by omega) (by omega))) rfl ?_
        rintro z120 hz120
        refine zN ?_
        obtain ⟨hz1, hz2⟩ := hz120
        have hz120 : z120.1 = costF r lv fx f k (lv.getD j default) ∧ KnOk r lv fx z120.2 := ⟨hz1, hz2⟩
        rw [hz1]
        refine zN ?_
        refine qp (K.add_i64 rfl rfl (by omega)) ?_
        refine qa ?_
        refine K.seq_nil ?_
        refine K.norm_block ?_
        refine K.norm_then ?_
        refine K.region_lit ?_
        refine qp (K.add_i64 rfl rfl (by omega)) ?_
        refine qm ?_
        refine K.seq_nil ?_
        have hsm := sumF_yes (rec := costF r lv fx f) (l := (lv.getD j default)) ht114
        exact K.round_endW (L'' := K.mq bm none z120.2 :: K.blk bc 87 [.pointer (some ⟨q, 0, none⟩), .slice QL lv.length cL, .map (some bm), .slice QF fx.length cF, .int .i64 ((mthS r : Nat) : Int)] :: K.row (.slice QL lv.length cL) 3 1 lv.length (lv.flatMap K.eI) :: K.row (.slice QF fx.length cF) 3 1 fx.length (fx.flatMap K.eI) :: K.blk q 82 (.slice A r.length c :: dcell (drT r)) :: K.blk b3 91 [.int .i64 (a : Int), .int .i64 low] :: T) [.int .i64 (sumF (costF r lv fx f) r a (lv.getD j default) k + costF r lv fx f k (lv.getD j default)), .int .i64 ((k : Int) + 1)] ⟨k + 1, z120.2, by rw [hsm]; rfl, rfl, hz120.2, by omega⟩ (by simp [K.nth, intOf]; omega) ((List.Sublist.refl _)) (by kernel_rfl)
      try replace ht114 := of_decide_eq_false ht114
      refine K.skip ?_
      refine K.norm_block ?_
      refine K.norm_then ?_
      refine K.region_lit ?_
      refine qp (K.add_i64 rfl rfl (by omega)) ?_
      refine qm ?_
      refine K.seq_nil ?_
      have hsm := sumF_no (rec := costF r lv fx f) (l := (lv.getD j default)) ht114
      exact K.round_endW (L'' := K.mq bm none kvs2 :: K.blk bc 87 [.pointer (some ⟨q, 0, none⟩), .slice QL lv.length cL, .map (some bm), .slice QF fx.length cF, .int .i64 ((mthS r : Nat) : Int)] :: K.row (.slice QL lv.length cL) 3 1 lv.length (lv.flatMap K.eI) :: K.row (.slice QF fx.length cF) 3 1 fx.length (fx.flatMap K.eI) :: K.blk q 82 (.slice A r.length c :: dcell (drT r)) :: K.blk b3 91 [.int .i64 (a : Int), .int .i64 low] :: T) [.int .i64 (sumF (costF r lv fx f) r a (lv.getD j default) k), .int .i64 ((k : Int) + 1)] ⟨k + 1, kvs2, by rw [hsm]; rfl, rfl, hkn2, by omega⟩ (by simp [K.nth, intOf]; omega) ((List.Sublist.cons _ (List.Sublist.refl _))) (by kernel_rfl)
    try replace ht106 := of_decide_eq_false ht106
    refine K.exit ?_
    refine K.exit_then ?_
    refine K.exit_then ?_
    refine K.exit_here ?_
    refine K.norm_then ?_
    refine K.region_lit ?_
    iterate 2 refine qm ?_
    refine qp (K.min_int rfl rfl) ?_
    refine qa ?_
    refine K.seq_nil ?_
    refine K.norm_block ?_
    refine K.norm_then ?_
    refine K.region_lit ?_
    refine qp (K.add_i64 rfl rfl (by omega)) ?_
    refine qm ?_
    refine K.seq_nil ?_
    have e0 : k = r.length := by omega
    subst e0
    have hmn := minF_more (rec := costF r lv fx f) hskn
    exact K.round_endW (L'' := K.mq bm none kvs2 :: K.blk bc 87 [.pointer (some ⟨q, 0, none⟩), .slice QL lv.length cL, .map (some bm), .slice QF fx.length cF, .int .i64 ((mthS r : Nat) : Int)] :: K.row (.slice QL lv.length cL) 3 1 lv.length (lv.flatMap K.eI) :: K.row (.slice QF fx.length cF) 3 1 fx.length (fx.flatMap K.eI) :: K.blk q 82 (.slice A r.length c :: dcell (drT r)) :: K.blk b3 91 [.int .i64 (a : Int), .int .i64 low] :: T) [.int .i64 (min (minF (costF r lv fx f) r lv fx a low j) (sumF (costF r lv fx f) r a (lv.getD j default) r.length)), .int .i64 ((j : Int) + 1)] ⟨j + 1, kvs2, by rw [hmn]; rfl, rfl, hkn2, by omega⟩ (by simp [K.nth, intOf]; omega) ((List.Sublist.refl _)) (by kernel_rfl)
  try replace ht32 := of_decide_eq_false ht32
  refine K.exit ?_
  refine K.exit_then ?_
  refine K.exit_then ?_
  refine K.exit_here ?_
  refine K.norm_then ?_
  refine K.seq ?_
  refine K.draw_L [6] Tryz_mixed ?_
  refine K.d_pure 0 rfl (K.move) (by kernel_rfl) rfl ?_
  refine zn ?_
  refine K.d_pure 1 rfl (K.nilCheck rfl) (by kernel_rfl) rfl ?_
  refine zn ?_
  refine K.d_pure 2 rfl (K.fieldAddr_lit fo_87_2 rfl) (by kernel_rfl) rfl ?_
  refine zn ?_
  refine K.d_mem 3 rfl (K.load1_own one_85 rfl (K.m1) rfl) (fun _ h => h) (by kernel_rfl) (by kernel_rfl) rfl ?_
  refine zN ?_
  refine K.d_mem 4 rfl (K.loadA_own ag_91 rfl (K.m5) rfl) (fun _ h => h) (by kernel_rfl) (by kernel_rfl) rfl ?_
  refine zN ?_
  refine K.d_pure 5 rfl (K.move) (by kernel_rfl) rfl ?_
  refine zn ?_
  refine K.d_last 6 rfl (K.mapUpdate_mq mapC rfl rfl rfl (keyC (by omega) (by omega)) (keyCs g hkn1) (fun _ => K.rp0)) rfl (by kernel_rfl) rfl ?_
  rintro kvs6 hput6
  refine zN ?_
  refine K.d_done (by kernel_rfl) ?_
  refine K.norm_then ?_
  refine sr ?_
  refine qm ?_
  refine qa ?_
  refine sn ?_
  refine K.ret ?_
  refine K.end_ret (fun w _ => K.res_tmp rfl w) ?_
  have e0 : j = lv.length := by omega
  subst e0
  have hkp : KnOk r lv fx kvs6 := kn_put hkn1 ha hlo (by rw [← hf]; exact hput6)
  exact K.retsU (costF r lv fx (f + 1) a low, kvs6) ⟨rfl, hkp⟩ rfl ((List.Sublist.cons_cons _ (List.Sublist.cons_cons _ (List.Sublist.cons_cons _ (List.Sublist.cons_cons _ (List.Sublist.cons_cons _ (List.Sublist.cons _ (List.Sublist.refl _))))))))

theorem c77 {r : List RvT} {A : Option Addr} {c q : Nat} {w0 : World} (hR : K.Rd w0 A 4 eR r) (g : Good r) {lv fx : List Int} {QL QF : Option Addr} {cL cF bm bc : Nat} (hlv : ∀ x ∈ lv, -4500 ≤ x ∧ x ≤ 9000) (hll : lv.length ≤ 27) (hfl : fx.length ≤ 9) (hqL : lv.length = 0 ∨ ∃ b, QL = some ⟨b, 0, none⟩) (hqF : fx.length = 0 ∨ ∃ b, QF = some ⟨b, 0, none⟩) : ∀ f, Go77 r A c q lv fx QL QF cL cF bm bc f w0
  | 0 => fun _ _ ha _ hf => absurd hf (by have := (dep_is g ha).1; omega)
  | f + 1 => fun h1 h2 h3 h4 h5 => c77_s hR g hlv hll hfl hqL hqF (c77 hR g hlv hll hfl hqL hqF f) h1 h2 h3 h4 h5


end Go.Proofs.YtekkpcpbnonkaaaGreatDoor.Rv
end
section
set_option linter.unusedSimpArgs false
set_option linter.unusedVariables false
namespace Go.Proofs.YtekkpcpbnonkaaaGreatDoor.Rv
open Go.RowKit Go
open Go.K (setd setn ev nth over cl eI eP eT setM setF)
attribute [local irreducible] K.blk K.row
theorem bl97 (z : Int) (p : Addr) : K.Bl Tryz.prog 87 [(0, .pointer (some p)), (4, .int .i64 z)] (.agg #[.pointer (some p), .slice none 0 0, .map none, .slice none 0 0, .int .i64 z]) := fun w => by kernel_rfl
theorem bs3 (x y z : Int) : K.Bs Tryz.prog 28 3 [(0, .int .i64 x), (1, .int .i64 y), (2, .int .i64 z)] 3 [.int .i64 x, .int .i64 y, .int .i64 z] := fun w => by kernel_rfl
def RetI (z : Int) (xs : List Int) (e : Int) (w : World) : Ending → World → Prop :=
  K.Ret (fun r : Option Addr × Nat => xs.length = 0 ∨ ∃ b, r.1 = some ⟨b, 0, none⟩) (fun r => .tuple #[.int .i64 z, .slice r.1 xs.length r.2, .int .i64 e]) (fun r => [K.row (.slice r.1 xs.length r.2) 3 1 xs.length (xs.flatMap K.eI)]) w
theorem reti {w0 w : World} {L : List K.Chunk} {A : Option Addr} {n c : Nat} {ys : List Value} {xs : List Int} {z z' e e' : Int} {v : Value} (hm : K.row (.slice A n c) 3 1 n ys ∈ L) (hn : n = xs.length) (hys : ys = xs.flatMap K.eI) (hz : z = z') (he : e = e') (hv : v = .tuple #[.int .i64 z, .slice A n c, .int .i64 e]) : K.Hold w L (RetI z' xs e' w (.returned v)) := by
  subst hn hys hz he hv
  exact K.use_row hm fun h => K.rets (A, c) h rfl (by simpa using hm)
theorem reti_0 {w : World} {L : List K.Chunk} {xs : List Int} {z z' e e' : Int} {v : Value} (hx : xs = []) (hz : z = z') (he : e = e') (hv : v = .tuple #[.int .i64 z, .slice none 0 0, .int .i64 e]) : K.Hold w L (RetI z' xs e' w (.returned v)) := by
  subst hx
  exact K.nil_row (e := 3) (size := 1) (reti (w0 := w) (List.Mem.head _) rfl rfl hz he hv)

set_option maxRecDepth 100000 in
theorem c76 {r : List RvT} {A : Option Addr} {c q : Nat} {w0 : World} (hR : K.Rd w0 A 4 eR r) (g : Good r) {lv fx : List Int} {QL QF : Option Addr} {cL cF bc nl nf : Nat} {vl vf : List Value} {mv : Value} {T : List K.Chunk} {w : World} (hst : K.St w0 (K.blk bc 87 [.pointer (some ⟨q, 0, none⟩), .slice QL nl cL, mv, .slice QF nf cF, .int .i64 ((mthS r : Nat) : Int)] :: K.row (.slice QL nl cL) 3 1 nl vl :: K.row (.slice QF nf cF) 3 1 nf vf :: K.blk q 82 (.slice A r.length c :: dcell (drT r)) :: T) w) (hnl : nl = lv.length) (hvl : vl = lv.flatMap K.eI) (hnf : nf = fx.length) (hvf : vf = fx.flatMap K.eI) (hlv : ∀ x ∈ lv, -4500 ≤ x ∧ x ≤ 9000) (hll : lv.length ≤ 27) (hfl : fx.length ≤ 9) :
    Calls Tryz.prog 41 [.pointer (some ⟨bc, 0, none⟩)].toArray w (K.RetU (fun _ : Nat => True) (fun _ => .int .i64 (askS r lv fx)) w0 (fun z => K.blk bc 87 [.pointer (some ⟨q, 0, none⟩), .slice QL nl cL, .map (some z), .slice QF nf cF, .int .i64 ((mthS r : Nat) : Int)] :: K.row (.slice QL nl cL) 3 1 nl vl :: K.row (.slice QF nf cF) 3 1 nf vf :: K.blk q 82 (.slice A r.length c :: dcell (drT r)) :: T)) := by
  subst hnl hvl hnf hvf
  have hgn := g.n
  have hmt := mth_is g
  have hd0 : dep r (mthS r) = 0 := (dep_m g hmt.1).2 hmt.2.1
  refine K.enterU (args := [.pointer (some ⟨bc, 0, none⟩)]) Tryz.func41 rfl (n := 7) rfl hst ?_
  simp only [List.replicate, List.cons_append, List.nil_append]
  refine sr ?_
  refine qa ?_
  refine sn ?_
  refine sr ?_
  refine K.seq_new (K.mkMap_q) rfl ?_
  intro b2
  refine zN ?_
  refine qp (K.fieldAddr_lit fo_87_2 rfl) ?_
  refine K.seq_st (K.store sz_85 rfl rfl rfl rfl (K.rp1)) rfl ?_
  refine zN ?_
  refine sn ?_
  refine K.seq ?_
  refine K.use_row (A := QL) K.m2 (fun hqL => ?_)
  refine K.use_row (A := QF) K.m3 (fun hqF => ?_)
  refine K.region_lit ?_
  refine qp (K.fieldAddr_lit fo_87_4 rfl) ?_
  refine K.seq_sil (K.load1_own one_3 rfl (K.m1) rfl) rfl ?_
  refine zN ?_
  refine K.seq_pure (K.build (bl101 _ _)) rfl ?_
  refine zN ?_
  refine K.seq_upd (K.callU_f cal_42 (fun w hw => c77 hR g hlv hll hfl hqL hqF (r.length + 1) (a := mthS r) (low := -9000) (T := T) hw kn_nil hmt.1 (by omega) (by rw [hd0]; rfl))) rfl ?_
  rintro ⟨n7, kv7⟩ hz7
  refine zN ?_
  refine qa ?_
  refine sn ?_
  refine K.ret ?_
  refine K.end_ret (fun w _ => K.res_tmp rfl w) ?_
  have hv7 : n7 = askS r lv fx := hz7.1
  exact K.retsU b2 trivial (by rw [← hv7]; rfl) ((List.Sublist.cons _ (List.Sublist.refl _)))

set_option maxRecDepth 100000 in
theorem e32 {r : List RvT} {A : Option Addr} {c : Nat} {w : World} (hR : K.Rd w A 4 eR r) (hn : r.length ≤ 4611686018427387904) (hc : (chk r).2.2 ≠ 0) :
    Calls Tryz.prog 9 [.slice A r.length c].toArray w (RetI (lstC r) (lstL r) (chk r).2.2 w) := by
  refine K.enter (args := [.slice A r.length c]) Tryz.func9 rfl (n := 101) rfl ?_
  simp only [List.replicate, List.cons_append, List.nil_append]
  refine sr ?_
  iterate 3 refine qa ?_
  refine sn ?_
  refine sr ?_
  refine qm ?_
  refine K.seq_call (K.call_g cal_36 (fun F w hF hw => e52 (hR.pass hw) hn hc)) rfl ?_
  refine zN ?_
  refine qm ?_
  refine qx ?_
  refine qx ?_
  iterate 2 refine qa ?_
  refine sn ?_
  refine K.seq ?_
  refine sr ?_
  refine qm ?_
  refine qp (K.neq rfl rfl) ?_
  refine sn ?_
  refine K.cond_true (by exact congrArg Value.bool (decide_eq_true hc)) ?_
  refine sr ?_
  refine qm ?_
  iterate 3 refine qa ?_
  refine sn ?_
  refine K.ret ?_
  refine K.ret_then ?_
  refine K.end_ret (fun w _ => K.res_ttt rfl w) ?_
  exact reti_0 (by unfold lstL; rw [if_pos hc]) (by unfold lstC; rw [if_pos hc]) rfl rfl

set_option maxRecDepth 100000 in
set_option maxHeartbeats 4000000 in
theorem g32 {r : List RvT} {A : Option Addr} {c : Nat} {w : World} (hR : K.Rd w A 4 eR r) (hn : r.length ≤ 4611686018427387904) (hc : (chk r).2.2 = 0) :
    Calls Tryz.prog 9 [.slice A r.length c].toArray w (RetI (lstC r) (lstL r) (chk r).2.2 w) := by
  have g : Good r := chk_good hc
  have hgn := g.n
  have hmt := mth_is g
  have hll := @levS_len r
  have hNL : (levU r r.length).length = (levS r).length := by rw [levS_len, levU_len]
  have hix : K.idx (fun p : RvT => decide (p.dn = -1)) r = ((mthS r : Nat) : Int) := K.idx_found hmt.1 (fun j hj => decide_eq_false (fun h => by have := hmt.2.2 j (by omega) h; omega)) (decide_eq_true hmt.2.1)
  refine K.enter (args := [.slice A r.length c]) Tryz.func9 rfl (n := 101) rfl ?_
  simp only [List.replicate, List.cons_append, List.nil_append]
  refine sr ?_
  iterate 3 refine qa ?_
  refine sn ?_
  refine sr ?_
  refine qm ?_
  refine K.seq_loud (K.call_f cal_36 (fun F w hF hw => g52 (hR.pass hw) hn hc)) rfl ?_
  rintro q _
  refine zN ?_
  refine qm ?_
  refine qx ?_
  refine qx ?_
  iterate 2 refine qa ?_
  refine sn ?_
  refine K.seq ?_
  refine sr ?_
  refine qm ?_
  refine qp (K.neq rfl rfl) ?_
  refine sn ?_
  refine K.cond_false (by rfl) ?_
  refine K.skip ?_
  refine K.norm_then ?_
  refine sr ?_
  iterate 2 refine qm ?_
  refine K.seq_call (K.call_g cal_38 (fun F w hF hw => (by have hg := c73 (c := c) (f := 39) (cap := []) (p := fun p : RvT => decide (p.dn = -1)) (hR.pass hw) hn cal_39 (fun x _ w1 _ => c74); rw [hix] at hg; exact hg))) rfl ?_
  refine zN ?_
  refine K.seq_pure (K.build (bl97 _ _)) rfl ?_
  refine zN ?_
  refine K.seq_new (K.alloc zr_87) rfl ?_
  intro b6
  refine zN ?_
  refine K.seq_st (K.store_all sz_87 rfl rfl rfl rfl (K.rp0)) rfl ?_
  refine zN ?_
  refine sn ?_
  refine K.seq ?_
  refine sr ?_
  refine K.nil_row (e := 3) (size := 1) ?_
  refine qm ?_
  refine qp (K.len_sl sl_22 rfl) ?_
  refine qm ?_
  refine sn ?_
  refine K.block ?_
  refine K.loopW [28] [7, 8, 9, 29, 30, 31, 32, 33, 34, 35, 36, 37, 38, 39, 40, 41, 42, 43, 44, 45, 46, 47, 48, 49, 50, 51, 52, 53] (fun vi L => ∃ (i : Nat) (QL : Option Addr) (cL : Nat), vi = [.int .i64 (i : Int)] ∧ L = [K.row (.slice QL (levU r i).length cL) 3 1 (levU r i).length ((levU r i).flatMap K.eI), K.blk b6 87 [.pointer (some ⟨q, 0, none⟩), .slice QL (levU r i).length cL, .map none, .slice none 0 0, .int .i64 ((mthS r : Nat) : Int)], K.blk q 82 (.slice A r.length c :: dcell (drT r))] ∧ i ≤ r.length) (fun vi => r.length - (intOf (K.nth vi 0)).toNat) ?_ ?_
  · exact ⟨0, none, 0, rfl, rfl, Nat.zero_le _⟩
  intro vi vr L hJ
  obtain ⟨i, QL, cL, rfl, rfl, hin⟩ := hJ
  try dsimp only [setd, setn, ev, nth, over, cl, eI, eP, eT, eR, setM, setF, List.map, List.append, List.drop, List.take]
  refine sr ?_
  refine qp (K.lss rfl rfl) ?_
  refine sn ?_
  refine K.seq ?_
  refine K.cond rfl (fun ht29 => ?_) (fun ht29 => ?_)
  · try replace ht29 := of_decide_eq_true ht29
    have hi : i < r.length := by omega
    have hpi := g.p i hi
    have hdr := riv_at (f := drT r) (S := .slice A r.length c) (i := i) (k := mthS r) (by omega) (by omega)
    rw [drT_in hi hmt.1, drp_mth g hi] at hdr
    have hdl := DM_le g hi
    refine K.skip ?_
    refine K.norm_then ?_
    refine K.seq ?_
    refine K.block ?_
    refine sr ?_
    refine qm ?_
    refine K.seq_ix (M := []) _ hR.sl sl_22 rfl rfl rfl (by omega) rfl ?_
    intro p31 hp31
    refine zN ?_
    refine K.seq_sil (K.loadA_p ag_34 rfl (hp31.any) rfl) rfl ?_
    refine zN ?_
    refine K.seq_new (K.alloc zr_34) rfl ?_
    intro b8
    refine zN ?_
    refine qa ?_
    refine K.seq_st (K.store_all sz_34 rfl rfl rfl rfl (K.rp0)) rfl ?_
    refine zN ?_
    refine sn ?_
    refine K.seq ?_
    refine K.draw_L [] Tryz_mixed ?_
    refine K.d_pure 0 rfl (K.move) (by kernel_rfl) rfl ?_
    refine zn ?_
    refine K.d_pure 1 rfl (K.move) (by kernel_rfl) rfl ?_
    refine zn ?_
    refine K.d_pure 2 rfl (K.fieldAddr_lit fo_87_4 rfl) (by kernel_rfl) rfl ?_
    refine zn ?_
    refine K.d_mem 3 rfl (K.load1_own one_3 rfl (K.m2) rfl) (fun _ h => h) (by kernel_rfl) (by kernel_rfl) rfl ?_
    refine zN ?_
    refine K.d_pure 4 rfl (K.nilCheck rfl) (by kernel_rfl) rfl ?_
    refine zn ?_
    refine K.d_pure 5 rfl (K.fieldAddr_lit fo_82_1 rfl) (by kernel_rfl) rfl ?_
    refine zn ?_
    refine K.d_pure 6 rfl (K.indexAddr_ar ar_80 rfl rfl (by omega) (by omega)) (by kernel_rfl) rfl ?_
    refine zN ?_
    refine K.d_pure 7 rfl (K.indexAddr_ar ar_79 rfl rfl (by omega) (by omega)) (by kernel_rfl) rfl ?_
    refine zN ?_
    refine K.d_mem 8 rfl (K.load_at one_3 rfl (K.PtrL.own' ((K.m3))) hdr) (fun _ h => h) (by kernel_rfl) (by kernel_rfl) rfl ?_
    refine zN ?_
    refine K.d_pure 9 rfl (K.assign) (by kernel_rfl) rfl ?_
    refine zn ?_
    refine K.d_done (by kernel_rfl) ?_
    refine K.norm_then ?_
    refine K.region_lit ?_
    refine qp (K.fieldAddr_lit fo_87_1 rfl) ?_
    refine K.seq_sil (K.load1_own one_28 rfl (K.m2) rfl) rfl ?_
    refine zN ?_
    refine qp (K.fieldAddr_lit fo_34_3 rfl) ?_
    refine K.seq_sil (K.load1_own one_3 rfl (K.m0) rfl) rfl ?_
    refine zN ?_
    refine qm ?_
    refine qp (K.sub_i64 rfl rfl (by omega)) ?_
    refine qm ?_
    refine qp (K.sub_i64 rfl rfl (by omega)) ?_
    refine K.seq_new (K.buildSlice (bs3 _ _ _)) rfl ?_
    intro b50
    refine zN ?_
    refine K.seq_upd (K.append el_28 rfl rfl (K.PtrL.own' (K.m0)) rfl rfl (by decide) (by rw [levU_len]; omega) (by rw [levU_len]; omega) (fun _ _ => K.rp2)) rfl ?_
    rintro ⟨g51, c51⟩ _
    refine zN ?_
    refine qp (K.fieldAddr_lit fo_87_1 rfl) ?_
    refine K.seq_st (K.store sz_28 rfl rfl rfl rfl (K.rp3)) rfl ?_
    refine zN ?_
    refine K.seq_nil ?_
    refine K.norm_block ?_
    refine K.norm_then ?_
    refine K.region_lit ?_
    refine qp (K.add_i64 rfl rfl (by omega)) ?_
    refine qm ?_
    refine K.seq_nil ?_
    have el : (levU r (i + 1)).length = (levU r i).length + 3 := by rw [levU, List.length_append]; rfl
    have ef : (levU r (i + 1)).flatMap K.eI = (levU r i).flatMap K.eI ++ [.int .i64 ((r.getD i default).ht - DM r i), .int .i64 (9000 - DM r i), .int .i64 0] := by rw [levU, List.flatMap_append]; rfl
    exact K.round_endW (L'' := [K.row (.slice (some ⟨g51, 0, none⟩) ((levU r i).length + 3) c51) 3 1 ((levU r i).length + 3) ((levU r i).flatMap K.eI ++ [.int .i64 ((r.getD i default).ht - DM r i), .int .i64 (9000 - DM r i), .int .i64 0]), K.blk b6 87 [.pointer (some ⟨q, 0, none⟩), .slice (some ⟨g51, 0, none⟩) ((levU r i).length + 3) c51, .map none, .slice none 0 0, .int .i64 ((mthS r : Nat) : Int)], K.blk q 82 (.slice A r.length c :: dcell (drT r))]) [.int .i64 ((i : Int) + 1)] ⟨i + 1, some ⟨g51, 0, none⟩, c51, rfl, by rw [el, ef], by omega⟩ (by simp [K.nth, intOf]; omega) (List.Sublist.cons _ (List.Sublist.cons _ (List.Sublist.refl _))) (by kernel_rfl)
  try replace ht29 := of_decide_eq_false ht29
  refine K.exit ?_
  refine K.exit_then ?_
  refine K.exit_then ?_
  refine K.exit_here ?_
  refine K.norm_then ?_
  refine K.seq ?_
  have e0 : i = r.length := by omega
  subst e0
  refine K.use_row (A := QL) K.m0 (fun hqL => ?_)
  obtain ⟨gb, rfl⟩ : ∃ gb, QL = some ⟨gb, 0, none⟩ := by
    rcases hqL with h | h
    · rw [levU_len] at h; omega
    · exact h
  refine K.region_lit ?_
  refine qp (K.fieldAddr_lit fo_87_1 rfl) ?_
  refine K.seq_sil (K.load1_own one_28 rfl (K.m1) rfl) rfl ?_
  refine zN ?_
  refine K.seq_upd (K.callU_f cal_40 (fun w hw => c75 (T := [_, _]) hw rfl (by rw [levU_len]; omega))) rfl ?_
  rintro ⟨⟩ _
  refine zN ?_
  rw [hNL]
  refine zN ?_
  refine sn ?_
  refine sr ?_
  refine K.seq_pure (K.mkFunc) rfl ?_
  refine zN ?_
  refine qa ?_
  refine sn ?_
  refine sr ?_
  refine K.nil_row (e := 3) (size := 1) ?_
  refine K.permH (L' := [_, _, _, _]) (List.Perm.trans (List.perm_middle (l₁ := [_, _])) (List.Perm.cons _ (List.Perm.trans (List.perm_middle (l₁ := [_])) (List.Perm.cons _ (List.Perm.refl _))))) ?_
  refine qm ?_
  refine K.seq_upd (K.callU (first := []) (cap := [.pointer (some ⟨b6, 0, none⟩)]) rfl cal_76 (fun w hw => c76 (T := []) (lv := (levS r)) (fx := []) hR g hw rfl rfl rfl rfl (fun x hx => levS_mem g hx) (by omega) (Nat.zero_le _))) rfl ?_
  rintro bm1 _
  refine zN ?_
  refine qa ?_
  refine sn ?_
  refine K.seq ?_
  refine sr ?_
  refine qm ?_
  refine qp (K.len_sl sl_22 rfl) ?_
  refine qm ?_
  refine sn ?_
  refine K.block ?_
  refine K.loopW [3, 62] [11, 13, 63, 64, 65, 66, 67, 68, 69, 70, 71, 72, 73, 74, 75, 76, 77, 78, 79, 80, 81, 82, 83, 84, 85, 86, 87, 88, 89, 90, 91, 92, 93, 94, 95, 96, 97, 98, 99] (fun vi L => ∃ (i : Nat) (QH : Option Addr) (cH bx : Nat), vi = [.slice QH (hgtF r (chgS r) i).length cH, .int .i64 (i : Int)] ∧ L = [K.blk b6 87 [.pointer (some ⟨q, 0, none⟩), .slice (some ⟨gb, 0, none⟩) (levS r).length cL, .map (some bx), .slice QH (hgtF r (chgS r) i).length cH, .int .i64 ((mthS r : Nat) : Int)], K.row (.slice (some ⟨gb, 0, none⟩) (levS r).length cL) 3 1 (levS r).length ((levS r).flatMap K.eI), K.row (.slice QH (hgtF r (chgS r) i).length cH) 3 1 (hgtF r (chgS r) i).length ((hgtF r (chgS r) i).flatMap K.eI), K.blk q 82 (.slice A r.length c :: dcell (drT r))] ∧ i ≤ r.length) (fun vi => r.length - (intOf (K.nth vi 1)).toNat) ?_ ?_
  · exact ⟨0, none, 0, bm1, rfl, rfl, Nat.zero_le _⟩
  intro vi vr L hJ
  obtain ⟨i, QH, cH, bx, rfl, rfl, hin⟩ := hJ
  try dsimp only [setd, setn, ev, nth, over, cl, eI, eP, eT, eR, setM, setF, List.map, List.append, List.drop, List.take]
  refine sr ?_
  refine qp (K.lss rfl rfl) ?_
  refine sn ?_
  refine K.seq ?_
  refine K.cond rfl (fun ht63 => ?_) (fun ht63 => ?_)
  · try replace ht63 := of_decide_eq_true ht63
    have hi : i < r.length := by omega
    have hdr := riv_at (f := drT r) (S := .slice A r.length c) (i := i) (k := mthS r) (by omega) (by omega)
    rw [drT_in hi hmt.1, drp_mth g hi] at hdr
    have hdl := DM_le g hi
    refine K.skip ?_
    refine K.norm_then ?_
    refine K.seq ?_
    refine K.block ?_
    refine sr ?_
    refine qm ?_
    refine qa ?_
    refine sn ?_
    refine K.seq ?_
    refine sr ?_
    refine K.nil_row (e := 3) (size := 1) ?_
    refine K.permH (L' := [_, _, _, _, _]) (List.Perm.trans (List.perm_middle (l₁ := [_])) (List.Perm.cons _ (List.Perm.trans (List.perm_middle (l₁ := [_])) (List.Perm.cons _ (List.Perm.trans (List.perm_middle (l₁ := [_])) (List.Perm.cons _ (List.Perm.refl _))))))) ?_
    refine qp (K.fieldAddr_lit fo_87_1 rfl) ?_
    refine K.seq_sil (K.load1_own one_28 rfl (K.m0) rfl) rfl ?_
    refine zN ?_
    refine qp (K.len_sl sl_28 rfl) ?_
    refine qm ?_
    refine sn ?_
    refine K.block ?_
    refine K.loopW [68] [13, 69, 70, 71, 72, 73, 74, 75, 76, 77, 78, 79, 80, 81, 82, 83, 84, 85, 86, 87, 88, 89, 90, 91, 92, 93, 94, 95, 96] (fun vi L => ∃ (j : Nat) (QX : Option Addr) (cX nX : Nat) (xX : List Int) (FV : Value) (bmy : Nat), vi = [.int .i64 (j : Int)] ∧ L = [K.blk b6 87 [.pointer (some ⟨q, 0, none⟩), .slice (some ⟨gb, 0, none⟩) (levS r).length cL, .map (some bmy), FV, .int .i64 ((mthS r : Nat) : Int)], K.row (.slice (some ⟨gb, 0, none⟩) (levS r).length cL) 3 1 (levS r).length ((levS r).flatMap K.eI), K.row (.slice QH (hgtF r (chgS r) i).length cH) 3 1 (hgtF r (chgS r) i).length ((hgtF r (chgS r) i).flatMap K.eI), K.row (.slice QX nX cX) 3 1 nX (xX.flatMap K.eI), K.blk q 82 (.slice A r.length c :: dcell (drT r))] ∧ j ≤ (levS r).length ∧ (∀ k, k < j → askS r (levS r) (tryL r (chgS r) i k) ≠ (chgS r)) ∧ (0 < j → FV = .slice QX nX cX ∧ nX = i + 1 ∧ xX = (tryL r (chgS r) i (j - 1)))) (fun vi => (levS r).length - (intOf (K.nth vi 0)).toNat) ?_ ?_
    · exact ⟨0, none, 0, 0, [], .slice QH (hgtF r (chgS r) i).length cH, bx, rfl, rfl, Nat.zero_le _, fun k hk => absurd hk (Nat.not_lt_zero k), fun h => absurd h (Nat.lt_irrefl 0)⟩
    intro vi vr L hJ
    obtain ⟨j, QX, cX, nX, xX, FV, bmy, rfl, rfl, hjn, hall, hX⟩ := hJ
    try dsimp only [setd, setn, ev, nth, over, cl, eI, eP, eT, eR, setM, setF, List.map, List.append, List.drop, List.take]
    refine sr ?_
    refine qp (K.lss rfl rfl) ?_
    refine sn ?_
    refine K.seq ?_
    refine K.cond rfl (fun ht69 => ?_) (fun ht69 => ?_)
    · try replace ht69 := of_decide_eq_true ht69
      have hj : j < (levS r).length := by omega
      have hlj := levS_at g hj
      refine K.skip ?_
      refine K.norm_then ?_
      refine K.seq ?_
      refine K.block ?_
      refine K.seq ?_
      refine K.use_rowc (A := QH) K.m2 (fun hqH hcH => ?_)
      refine K.region_lit ?_
      refine K.seq_ix (M := [K.row (.slice (some ⟨gb, 0, none⟩) (levS r).length cL) 3 1 (levS r).length ((levS r).flatMap K.eI)]) _ (K.Sl.own (w0 := w) (t := 3) (c := cL) (e := K.eI) (.inr ⟨gb, rfl⟩) (fun _ => rfl)) sl_28 rfl rfl rfl (by omega) rfl ?_
      intro p70 hp70
      refine zN ?_
      refine K.seq_sil (K.load1 one_3 rfl (hp70.at1 (K.m1))) rfl ?_
      refine zN ?_
      refine qa ?_
      refine sn ?_
      refine K.seq ?_
      refine K.draw_L [20] Tryz_mixed ?_
      refine K.d_pure 0 rfl (K.move) (by kernel_rfl) rfl ?_
      refine zn ?_
      refine K.d_pure 1 rfl (K.move) (by kernel_rfl) rfl ?_
      refine zn ?_
      refine K.d_pure 2 rfl (K.len_sl sl_28 rfl) (by kernel_rfl) rfl ?_
      refine zn ?_
      refine K.d_pure 3 rfl (K.move) (by kernel_rfl) rfl ?_
      refine zn ?_
      refine K.d_pure 4 rfl (K.len_sl sl_28 rfl) (by kernel_rfl) rfl ?_
      refine zn ?_
      refine K.d_pure 5 rfl (K.slice_hm sl_28 rfl rfl rfl hcH) (by kernel_rfl) rfl ?_
      refine zN ?_
      refine K.d_pure 6 rfl (K.move) (by kernel_rfl) rfl ?_
      refine zn ?_
      refine K.d_pure 7 rfl (K.move) (by kernel_rfl) rfl ?_
      refine zn ?_
      refine K.d_pure 8 rfl (K.move) (by kernel_rfl) rfl ?_
      refine zn ?_
      refine K.d_pure 9 rfl (K.fieldAddr_lit fo_87_4 rfl) (by kernel_rfl) rfl ?_
      refine zn ?_
      refine K.d_mem 10 rfl (K.load1_own one_3 rfl (K.m0) rfl) (fun _ h => h) (by kernel_rfl) (by kernel_rfl) rfl ?_
      refine zN ?_
      refine K.d_pure 11 rfl (K.nilCheck rfl) (by kernel_rfl) rfl ?_
      refine zn ?_
      refine K.d_pure 12 rfl (K.fieldAddr_lit fo_82_1 rfl) (by kernel_rfl) rfl ?_
      refine zn ?_
      refine K.d_pure 13 rfl (K.indexAddr_ar ar_80 rfl rfl (by omega) (by omega)) (by kernel_rfl) rfl ?_
      refine zN ?_
      refine K.d_pure 14 rfl (K.indexAddr_ar ar_79 rfl rfl (by omega) (by omega)) (by kernel_rfl) rfl ?_
      refine zN ?_
      refine K.d_mem 15 rfl (K.load_at one_3 rfl (K.PtrL.own' ((K.m4))) hdr) (fun _ h => h) (by kernel_rfl) (by kernel_rfl) rfl ?_
      refine zN ?_
      refine K.d_pure 16 rfl (K.add_i64 rfl rfl (by omega)) (by kernel_rfl) rfl ?_
      refine zn ?_
      refine K.d_new 17 rfl (K.buildSlice (bs1 _)) (fun _ h => h) (by kernel_rfl) rfl ?_
      intro b89
      refine zN ?_
      refine K.d_loud 18 rfl (K.appendN el_28 rfl rfl (K.Sl.own (w0 := w) (t := 3) (c := cH) (e := K.eI) hqH (fun _ => rfl)) (fun _ h => by simp only [List.mem_singleton] at h; subst h; exact (K.m3)) hqH rfl (fun _ => rfl) (K.PtrL.own' (K.m0)) rfl (by decide) (by rw [hgt_len]; omega) (by rw [hgt_len]; omega)) (fun _ h => K.tl h) (by kernel_rfl) rfl ?_
      rintro ⟨g90, c90⟩ _
      refine zN ?_
      refine K.d_pure 19 rfl (K.fieldAddr_lit fo_87_3 rfl) (by kernel_rfl) rfl ?_
      refine zn ?_
      refine K.d_last 20 rfl (K.store sz_28 rfl rfl rfl rfl (K.rp2)) rfl (by kernel_rfl) rfl ?_
      intro _ _
      refine zN ?_
      refine K.d_done (by kernel_rfl) ?_
      refine K.norm_then ?_
      refine K.seq ?_
      refine K.weak (List.Sublist.cons_cons _ (List.Sublist.cons _ (List.Sublist.cons_cons _ (List.Sublist.cons_cons _ (List.Sublist.cons_cons _ (List.Sublist.cons _ (List.Sublist.cons_cons _ (List.Sublist.slnil)))))))) ?_
      refine K.region_lit ?_
      refine K.permH (L' := [_, _, _, _, _]) (List.Perm.trans (List.perm_middle (l₁ := [_])) (List.Perm.cons _ (List.Perm.trans (List.perm_middle (l₁ := [_])) (List.Perm.cons _ (List.Perm.cons _ (List.Perm.trans (List.perm_middle (l₁ := [_])) (List.Perm.cons _ (List.Perm.refl _)))))))) ?_
      refine qm ?_
      refine K.seq_upd (K.callU (first := []) (cap := [.pointer (some ⟨b6, 0, none⟩)]) rfl cal_76 (fun w hw => c76 (T := [_]) (lv := (levS r)) (fx := (tryL r (chgS r) i j)) hR g hw rfl rfl (by rw [try_len, hgt_len]) (by unfold tryL; exact eI_snoc) (fun x hx => levS_mem g hx) (by omega) (by rw [try_len]; omega))) rfl ?_
      rintro bm2 _
      refine zN ?_
      refine qm ?_
      refine qp (K.eql rfl rfl) ?_
      refine sn ?_
      refine K.cond rfl (fun ht95 => ?_) (fun ht95 => ?_)
      · try replace ht95 := of_decide_eq_true ht95
        refine K.exit ?_
        refine K.exit_out rfl ?_
        refine K.exit_then ?_
        refine K.exit_then ?_
        refine K.exit_here ?_
        refine K.norm_then ?_
        refine K.region_lit ?_
        refine qp (K.fieldAddr_lit fo_87_3 rfl) ?_
        refine K.seq_sil (K.load1_own one_28 rfl (K.m0) rfl) rfl ?_
        refine zN ?_
        refine qa ?_
        refine K.seq_nil ?_
        refine K.norm_block ?_
        refine K.norm_then ?_
        refine K.region_lit ?_
        refine qp (K.add_i64 rfl rfl (by omega)) ?_
        refine qm ?_
        refine K.seq_nil ?_
        have ef : (hgtF r (chgS r) i).flatMap K.eI ++ [.int .i64 ((levS r).getD j default + DM r i)] = (tryL r (chgS r) i j).flatMap K.eI := by unfold tryL; exact eI_snoc
        have hh : (hgtF r (chgS r) (i + 1)) = (tryL r (chgS r) i j) := hgt_found hj hall ht95
        have hl : (hgtF r (chgS r) (i + 1)).length = (hgtF r (chgS r) i).length + 1 := by rw [hgt_len, hgt_len]
        exact K.round_endW (L'' := [K.blk b6 87 [.pointer (some ⟨q, 0, none⟩), .slice (some ⟨gb, 0, none⟩) (levS r).length cL, .map (some bm2), .slice (some ⟨g90, 0, none⟩) ((hgtF r (chgS r) i).length + 1) c90, .int .i64 ((mthS r : Nat) : Int)], K.row (.slice (some ⟨gb, 0, none⟩) (levS r).length cL) 3 1 (levS r).length ((levS r).flatMap K.eI), K.row (.slice (some ⟨g90, 0, none⟩) ((hgtF r (chgS r) i).length + 1) c90) 3 1 ((hgtF r (chgS r) i).length + 1) ((hgtF r (chgS r) i).flatMap K.eI ++ [.int .i64 ((levS r).getD j default + DM r i)]), K.blk q 82 (.slice A r.length c :: dcell (drT r))]) [.slice (some ⟨g90, 0, none⟩) ((hgtF r (chgS r) i).length + 1) c90, .int .i64 ((i : Int) + 1)] ⟨i + 1, some ⟨g90, 0, none⟩, c90, bm2, by rw [hl]; rfl, by rw [hl, hh, ← ef], by omega⟩ (by simp [K.nth, intOf]; omega) (List.Sublist.cons_cons _ (List.Sublist.cons_cons _ (List.Sublist.cons_cons _ (List.Sublist.cons_cons _ (List.nil_sublist _))))) (by kernel_rfl)
      try replace ht95 := of_decide_eq_false ht95
      refine K.skip ?_
      refine K.norm_block ?_
      refine K.norm_then ?_
      refine K.region_lit ?_
      refine K.permH (L' := [_, _, _, _, _]) (List.Perm.cons _ (List.Perm.cons _ (List.Perm.trans (List.perm_middle (l₁ := [_, _])) (List.Perm.cons _ (List.Perm.refl _))))) ?_
      refine qp (K.add_i64 rfl rfl (by omega)) ?_
      refine qm ?_
      refine K.seq_nil ?_
      have ef : (hgtF r (chgS r) i).flatMap K.eI ++ [.int .i64 ((levS r).getD j default + DM r i)] = (tryL r (chgS r) i j).flatMap K.eI := by unfold tryL; exact eI_snoc
      exact K.round_endW (L'' := [K.blk b6 87 [.pointer (some ⟨q, 0, none⟩), .slice (some ⟨gb, 0, none⟩) (levS r).length cL, .map (some bm2), .slice (some ⟨g90, 0, none⟩) ((hgtF r (chgS r) i).length + 1) c90, .int .i64 ((mthS r : Nat) : Int)], K.row (.slice (some ⟨gb, 0, none⟩) (levS r).length cL) 3 1 (levS r).length ((levS r).flatMap K.eI), K.row (.slice QH (hgtF r (chgS r) i).length cH) 3 1 (hgtF r (chgS r) i).length ((hgtF r (chgS r) i).flatMap K.eI), K.row (.slice (some ⟨g90, 0, none⟩) ((hgtF r (chgS r) i).length + 1) c90) 3 1 ((hgtF r (chgS r) i).length + 1) ((hgtF r (chgS r) i).flatMap K.eI ++ [.int .i64 ((levS r).getD j default + DM r i)]), K.blk q 82 (.slice A r.length c :: dcell (drT r))]) [.int .i64 ((j : Int) + 1)] ⟨j + 1, some ⟨g90, 0, none⟩, c90, (hgtF r (chgS r) i).length + 1, (tryL r (chgS r) i j), .slice (some ⟨g90, 0, none⟩) ((hgtF r (chgS r) i).length + 1) c90, bm2, rfl, by rw [← ef], by omega, K.lt_succ_case hall ht95, fun _ => ⟨rfl, by rw [hgt_len], rfl⟩⟩ (by simp [K.nth, intOf]; omega) (List.Sublist.refl _) (by kernel_rfl)
    try replace ht69 := of_decide_eq_false ht69
    refine K.exit ?_
    refine K.exit_then ?_
    refine K.exit_then ?_
    refine K.exit_here ?_
    refine K.norm_then ?_
    refine K.region_lit ?_
    refine qp (K.fieldAddr_lit fo_87_3 rfl) ?_
    refine K.seq_sil (K.load1_own one_28 rfl (K.m0) rfl) rfl ?_
    refine zN ?_
    refine qa ?_
    refine K.seq_nil ?_
    refine K.norm_block ?_
    refine K.norm_then ?_
    refine K.region_lit ?_
    refine qp (K.add_i64 rfl rfl (by omega)) ?_
    refine qm ?_
    refine K.seq_nil ?_
    have e0 : j = (levS r).length := by omega
    subst e0
    obtain ⟨rfl, rfl, rfl⟩ := hX (by omega)
    have hh : (hgtF r (chgS r) (i + 1)) = (tryL r (chgS r) i ((levS r).length - 1)) := hgt_last (by omega) hall
    have hl : (hgtF r (chgS r) (i + 1)).length = i + 1 := hgt_len _
    exact K.round_endW (L'' := [K.blk b6 87 [.pointer (some ⟨q, 0, none⟩), .slice (some ⟨gb, 0, none⟩) (levS r).length cL, .map (some bmy), .slice QX (i + 1) cX, .int .i64 ((mthS r : Nat) : Int)], K.row (.slice (some ⟨gb, 0, none⟩) (levS r).length cL) 3 1 (levS r).length ((levS r).flatMap K.eI), K.row (.slice QX (i + 1) cX) 3 1 (i + 1) ((tryL r (chgS r) i ((levS r).length - 1)).flatMap K.eI), K.blk q 82 (.slice A r.length c :: dcell (drT r))]) [.slice QX (i + 1) cX, .int .i64 ((i : Int) + 1)] ⟨i + 1, QX, cX, bmy, by rw [hl]; rfl, by rw [hl, hh], by omega⟩ (by simp [K.nth, intOf]; omega) (List.Sublist.cons_cons _ (List.Sublist.cons_cons _ (List.Sublist.cons _ (List.Sublist.refl _)))) (by kernel_rfl)
  try replace ht63 := of_decide_eq_false ht63
  refine K.exit ?_
  refine K.exit_then ?_
  refine K.exit_then ?_
  refine K.exit_here ?_
  refine K.norm_then ?_
  refine sr ?_
  iterate 2 refine qm ?_
  iterate 3 refine qa ?_
  refine sn ?_
  refine K.ret ?_
  refine K.end_ret (fun w _ => K.res_ttt rfl w) ?_
  have e0 : i = r.length := by omega
  subst e0
  have h1 : lstC r = chgS r := by unfold lstC; rw [if_neg (by omega)]
  have h2 : lstL r = (hgtF r (chgS r) r.length) := by unfold lstL; rw [if_neg (by omega)]
  rw [h1, h2, hc]
  exact reti (w0 := w) K.m2 rfl rfl rfl rfl rfl

theorem c32 {r : List RvT} {A : Option Addr} {c : Nat} {w : World} (hR : K.Rd w A 4 eR r) (hn : r.length ≤ 4611686018427387904) : Calls Tryz.prog 9 [.slice A r.length c].toArray w (RetI (lstC r) (lstL r) (chk r).2.2 w) := by
  by_cases hc : (chk r).2.2 = 0
  · exact g32 hR hn hc
  · exact e32 hR hn hc


end Go.Proofs.YtekkpcpbnonkaaaGreatDoor.Rv
end
section
set_option linter.unusedSimpArgs false
set_option linter.unusedVariables false
namespace Go.Proofs.YtekkpcpbnonkaaaGreatDoor.Rv
open Go.RowKit Go
open Go.K (setd setn ev nth over cl eI eP eT setM setF)
attribute [local irreducible] K.blk K.row
theorem blR0 : K.Bl Tryz.prog 34 [(0, .string ⟨#[115, 101, 97]⟩), (1, .int .i64 (-1))] (.agg #[.string ⟨#[115, 101, 97]⟩, .int .i64 (-1), .int .i64 0, .int .i64 0]) := fun w => by kernel_rfl
theorem blR1 : K.Bl Tryz.prog 34 [(0, .string ⟨#[102, 111, 114, 100]⟩), (1, .int .i64 0), (2, .int .i64 5), (3, .int .i64 40)] (.agg #[.string ⟨#[102, 111, 114, 100]⟩, .int .i64 0, .int .i64 5, .int .i64 40]) := fun w => by kernel_rfl
theorem blR2 : K.Bl Tryz.prog 34 [(0, .string ⟨#[109, 105, 108, 108]⟩), (1, .int .i64 1), (2, .int .i64 10), (3, .int .i64 45)] (.agg #[.string ⟨#[109, 105, 108, 108]⟩, .int .i64 1, .int .i64 10, .int .i64 45]) := fun w => by kernel_rfl
theorem blR3 : K.Bl Tryz.prog 34 [(0, .string ⟨#[115, 112, 114, 105, 110, 103]⟩), (1, .int .i64 2), (2, .int .i64 10), (3, .int .i64 70)] (.agg #[.string ⟨#[115, 112, 114, 105, 110, 103]⟩, .int .i64 2, .int .i64 10, .int .i64 70]) := fun w => by kernel_rfl
theorem blR4 (x : Int) : K.Bl Tryz.prog 34 [(0, .string ⟨#[119, 101, 108, 108]⟩), (1, .int .i64 1), (3, .int .i64 x)] (.agg #[.string ⟨#[119, 101, 108, 108]⟩, .int .i64 1, .int .i64 0, .int .i64 x]) := fun w => by kernel_rfl
theorem bsR (x : Int) : K.Bs Tryz.prog 22 5 [(0, .agg #[.string ⟨#[115, 101, 97]⟩, .int .i64 (-1), .int .i64 0, .int .i64 0]), (1, .agg #[.string ⟨#[102, 111, 114, 100]⟩, .int .i64 0, .int .i64 5, .int .i64 40]), (2, .agg #[.string ⟨#[109, 105, 108, 108]⟩, .int .i64 1, .int .i64 10, .int .i64 45]), (3, .agg #[.string ⟨#[115, 112, 114, 105, 110, 103]⟩, .int .i64 2, .int .i64 10, .int .i64 70]), (4, .agg #[.string ⟨#[119, 101, 108, 108]⟩, .int .i64 1, .int .i64 0, .int .i64 x])] 34 ((rivS x).flatMap eR) := fun w => by kernel_rfl
theorem blT0 : K.Bl Tryz.prog 34 [(0, .string ⟨#[97]⟩), (1, .int .i64 1)] (.agg #[.string ⟨#[97]⟩, .int .i64 1, .int .i64 0, .int .i64 0]) := fun w => by kernel_rfl
theorem blT1 : K.Bl Tryz.prog 34 [(0, .string ⟨#[98]⟩), (1, .int .i64 0)] (.agg #[.string ⟨#[98]⟩, .int .i64 0, .int .i64 0, .int .i64 0]) := fun w => by kernel_rfl
theorem bsT : K.Bs Tryz.prog 22 2 [(0, .agg #[.string ⟨#[97]⟩, .int .i64 1, .int .i64 0, .int .i64 0]), (1, .agg #[.string ⟨#[98]⟩, .int .i64 0, .int .i64 0, .int .i64 0])] 34 (twoS.flatMap eR) := fun w => by kernel_rfl
theorem bsI1 (a : Int) : K.Bs Tryz.prog 28 1 [(0, .int .i64 a)] 3 ([a].flatMap K.eI) := fun w => by kernel_rfl
theorem bsI2 (a b : Int) : K.Bs Tryz.prog 28 2 [(0, .int .i64 a), (1, .int .i64 b)] 3 ([a, b].flatMap K.eI) := fun w => by kernel_rfl
theorem bsI5 (a b c d e : Int) : K.Bs Tryz.prog 28 5 [(0, .int .i64 a), (1, .int .i64 b), (2, .int .i64 c), (3, .int .i64 d), (4, .int .i64 e)] 3 ([a, b, c, d, e].flatMap K.eI) := fun w => by kernel_rfl
theorem c18t {A B : Option Addr} {c d : Nat} {xs : List Int} {w : World} (hX : K.Rd w A 1 K.eI xs) (hY : K.Rd w B 1 K.eI xs) (hn : xs.length ≤ 1000000) : Calls Tryz.prog 28 [.slice A xs.length c, .slice B xs.length d].toArray w (K.Gives (.bool true) w) := by
  have h := c18 (c := c) (d := d) hX hY hn hn
  rwa [decide_eq_true rfl] at h

set_option maxRecDepth 100000 in
theorem c34 {x : Int} (w : World) :
    Calls Tryz.prog 30 [.int .i64 x].toArray w (K.Ret (fun _ : Nat => True) (fun b => .slice (some ⟨b, 0, none⟩) 5 5) (fun b => [K.blk b 34 ((rivS x).flatMap eR)]) w) := by
  refine K.enter (args := [.int .i64 x]) Tryz.func30 rfl (n := 9) rfl ?_
  simp only [List.replicate, List.cons_append, List.nil_append]
  refine sr ?_
  refine qa ?_
  refine sn ?_
  refine sr ?_
  refine K.seq_pure (K.build (blR0)) rfl ?_
  refine zN ?_
  refine K.seq_pure (K.build (blR1)) rfl ?_
  refine zN ?_
  refine K.seq_pure (K.build (blR2)) rfl ?_
  refine zN ?_
  refine K.seq_pure (K.build (blR3)) rfl ?_
  refine zN ?_
  refine qm ?_
  refine K.seq_pure (K.build (blR4 _)) rfl ?_
  refine zN ?_
  refine K.seq_new (K.buildSlice (bsR _)) rfl ?_
  intro b9
  refine zN ?_
  refine qa ?_
  refine sn ?_
  refine K.ret ?_
  refine K.end_ret (fun w _ => K.res_tmp rfl w) ?_
  exact K.rets_v b9 trivial rfl rfl (List.Sublist.refl _)

theorem ex16 {w : World} {b : Nat} (hR : K.Rd w (some ⟨b, 0, none⟩) 4 eR (rivS 38))  : Calls Tryz.prog 13 [.slice (some ⟨b, 0, none⟩) 5 5].toArray w (K.RetSE 3 1 K.eI [2, 4] 0 w) := by
  have h := c16 (r := rivS 38) (A := some ⟨b, 0, none⟩) (c := 5)  hR (by decide)
  rw [ex_bad, ex_chk] at h
  exact h


theorem ex19 {w : World} {b : Nat} (hR : K.Rd w (some ⟨b, 0, none⟩) 4 eR (rivS 38))  : Calls Tryz.prog 31 [.slice (some ⟨b, 0, none⟩) 5 5, .int .i64 3].toArray w (K.RetSE 3 1 K.eI [3, 2] 0 w) := by
  have h := c19 (r := rivS 38) (A := some ⟨b, 0, none⟩) (c := 5) (z := 3) hR (by decide)
  rw [ex_poured, ex_pou.1] at h
  exact h




theorem ex21 {w : World} {b : Nat} (hR : K.Rd w (some ⟨b, 0, none⟩) 4 eR (rivS 38))  : Calls Tryz.prog 7 [.slice (some ⟨b, 0, none⟩) 5 5].toArray w (K.RetSE 3 1 K.eI [0, 40, 50, 70, 40] 0 w) := by
  have h := c21 (r := rivS 38) (A := some ⟨b, 0, none⟩) (c := 5)  hR (by decide)
  rw [ex_fill.1, ex_fill.2] at h
  exact h


theorem ex23 {w : World} {b : Nat} (hR : K.Rd w (some ⟨b, 0, none⟩) 4 eR (rivS 38))  : Calls Tryz.prog 8 [.slice (some ⟨b, 0, none⟩) 5 5].toArray w (K.RetSE 3 1 K.eI [0, 35, 45, 70, 38] 0 w) := by
  have h := c23 (r := rivS 38) (A := some ⟨b, 0, none⟩) (c := 5)  hR (by decide)
  rw [ex_carve.1, ex_carve.2] at h
  exact h


theorem ex26 {w : World} {b : Nat} (hR : K.Rd w (some ⟨b, 0, none⟩) 4 eR (rivS 38)) (hT : Tab w) : Calls Tryz.prog 32 [.slice (some ⟨b, 0, none⟩) 5 5].toArray w (K.RetSE 3 1 K.eI [1] 0 w) := by
  have h := c26 (r := rivS 38) (A := some ⟨b, 0, none⟩) (c := 5)  hR (by decide) hT
  rw [ex_few, ex_chk] at h
  exact h




theorem ex28 {w : World} {b : Nat} (hR : K.Rd w (some ⟨b, 0, none⟩) 4 eR (rivS 38)) (hT : Tab w) : Calls Tryz.prog 33 [.slice (some ⟨b, 0, none⟩) 5 5].toArray w (Ret2 [1] [1] 0 w) := by
  have h := c28 (r := rivS 38) (A := some ⟨b, 0, none⟩) (c := 5)  hR (by decide) hT
  rw [ex_must.1, ex_must.2, ex_chk] at h
  exact h


theorem ex30 {w : World} {b : Nat} (hR : K.Rd w (some ⟨b, 0, none⟩) 4 eR (rivS 38)) (hT : Tab w) : Calls Tryz.prog 34 [.slice (some ⟨b, 0, none⟩) 5 5].toArray w (K.RetSE 3 1 K.eI [0, 1, 1, 2, 3] 0 w) := by
  have h := c30 (r := rivS 38) (A := some ⟨b, 0, none⟩) (c := 5)  hR (by decide) hT
  rw [ex_prf, ex_chk] at h
  exact h




theorem ex32 {w : World} {b : Nat} (hR : K.Rd w (some ⟨b, 0, none⟩) 4 eR (rivS 38))  : Calls Tryz.prog 9 [.slice (some ⟨b, 0, none⟩) 5 5].toArray w (RetI 5 [0, 35, 45, 70, 38] 0 w) := by
  have h := c32 (r := rivS 38) (A := some ⟨b, 0, none⟩) (c := 5)  hR (by decide)
  rw [ex_lst.1, ex_lst.2, ex_chk] at h
  exact h




set_option maxRecDepth 100000 in
set_option maxHeartbeats 2000000 in
theorem c25 {w : World} (hT : Tab w) :
    Calls Tryz.prog 6 [].toArray w (K.Gives (.bool true) w) := by
  refine K.enter (args := []) Tryz.func6 rfl (n := 157) rfl ?_
  simp only [List.replicate, List.cons_append, List.nil_append]
  refine sr ?_
  refine qa ?_
  refine sn ?_
  refine sr ?_
  refine K.seq_loud (K.call_f cal_30 (fun F w hF hw => c34 w)) rfl ?_
  rintro h1 _
  refine zN ?_
  refine qa ?_
  refine sn ?_
  refine sr ?_
  refine qm ?_
  refine K.seq_loud (K.call_f cal_13 (fun F w hF hw => ex16 (K.Rd.lit hw (hF _ (K.m0)) (fun _ => rfl) (by decide) rfl))) rfl ?_
  rintro ⟨A1, a1⟩ hq1
  refine zN ?_
  refine qm ?_
  refine qx ?_
  refine qx ?_
  iterate 2 refine qa ?_
  refine sn ?_
  refine sr ?_
  refine qm ?_
  refine K.seq_loud (K.call_f cal_31 (fun F w hF hw => ex19 (K.Rd.lit hw (hF _ (K.m1)) (fun _ => rfl) (by decide) rfl))) rfl ?_
  rintro ⟨A2, a2⟩ hq2
  refine zN ?_
  refine qm ?_
  refine qx ?_
  refine qx ?_
  iterate 2 refine qa ?_
  refine sn ?_
  refine sr ?_
  refine qm ?_
  refine K.seq_loud (K.call_f cal_7 (fun F w hF hw => ex21 (K.Rd.lit hw (hF _ (K.m2)) (fun _ => rfl) (by decide) rfl))) rfl ?_
  rintro ⟨A3, a3⟩ hq3
  refine zN ?_
  refine qm ?_
  refine qx ?_
  refine qx ?_
  iterate 2 refine qa ?_
  refine sn ?_
  refine sr ?_
  refine qm ?_
  refine K.seq_loud (K.call_f cal_8 (fun F w hF hw => ex23 (K.Rd.lit hw (hF _ (K.m3)) (fun _ => rfl) (by decide) rfl))) rfl ?_
  rintro ⟨A4, a4⟩ hq4
  refine zN ?_
  refine qm ?_
  refine qx ?_
  refine qx ?_
  iterate 2 refine qa ?_
  refine sn ?_
  refine sr ?_
  refine qm ?_
  refine K.seq_loud (K.call_f cal_32 (fun F w hF hw => ex26 (K.Rd.lit hw (hF _ (K.m4)) (fun _ => rfl) (by decide) rfl) (hT.pass hw))) rfl ?_
  rintro ⟨A5, a5⟩ hq5
  refine zN ?_
  refine qm ?_
  refine qx ?_
  refine qx ?_
  iterate 2 refine qa ?_
  refine sn ?_
  refine sr ?_
  refine qm ?_
  refine K.seq_loud (K.call_f cal_33 (fun F w hF hw => ex28 (K.Rd.lit hw (hF _ (K.m5)) (fun _ => rfl) (by decide) rfl) (hT.pass hw))) rfl ?_
  rintro ⟨⟨A6, a6⟩, ⟨A7, a7⟩⟩ ⟨hq6, hq7⟩
  refine zN ?_
  refine qm ?_
  refine qx ?_
  refine qx ?_
  refine qx ?_
  iterate 3 refine qa ?_
  refine sn ?_
  refine sr ?_
  refine qm ?_
  refine K.seq_loud (K.call_f cal_34 (fun F w hF hw => ex30 (K.Rd.lit hw (hF _ (K.m7)) (fun _ => rfl) (by decide) rfl) (hT.pass hw))) rfl ?_
  rintro ⟨A8, a8⟩ hq8
  refine zN ?_
  refine qm ?_
  refine qx ?_
  refine qx ?_
  iterate 2 refine qa ?_
  refine sn ?_
  refine sr ?_
  refine qm ?_
  refine K.seq_loud (K.call_f cal_9 (fun F w hF hw => ex32 (K.Rd.lit hw (hF _ (K.m8)) (fun _ => rfl) (by decide) rfl))) rfl ?_
  rintro ⟨A9, a9⟩ hq9
  refine zN ?_
  refine qm ?_
  refine qx ?_
  refine qx ?_
  refine qx ?_
  iterate 3 refine qa ?_
  refine sn ?_
  refine sr ?_
  refine K.seq_pure (K.build (blT0)) rfl ?_
  refine zN ?_
  refine K.seq_pure (K.build (blT1)) rfl ?_
  refine zN ?_
  refine K.seq_new (K.buildSlice (bsT)) rfl ?_
  intro b69
  refine zN ?_
  refine K.seq_call (K.call_g cal_35 (fun F w hF hw => (by have hg := c14 (r := twoS) (A := some ⟨b69, 0, none⟩) (c := 2) (K.Rd.lit hw (hF _ (K.m0)) (fun _ => rfl) (by decide) rfl) (by decide); rw [ex_two] at hg; exact hg))) rfl ?_
  refine zN ?_
  refine qm ?_
  refine qx ?_
  refine qx ?_
  refine qx ?_
  iterate 3 refine qa ?_
  refine sn ?_
  refine sr ?_
  refine qm ?_
  refine qp (K.Pure.eq (K.eql rfl rfl) (show _ = Value.bool true from congrArg Value.bool (by decide))) ?_
  iterate 2 refine qm ?_
  refine qp (K.Pure.eq (K.eql rfl rfl) (show _ = Value.bool true from congrArg Value.bool (by decide))) ?_
  refine qp (K.pick_t rfl) ?_
  iterate 2 refine qm ?_
  refine qp (K.Pure.eq (K.eql rfl rfl) (show _ = Value.bool true from congrArg Value.bool (by decide))) ?_
  refine qp (K.pick_t rfl) ?_
  iterate 2 refine qm ?_
  refine qp (K.Pure.eq (K.eql rfl rfl) (show _ = Value.bool true from congrArg Value.bool (by decide))) ?_
  refine qp (K.pick_t rfl) ?_
  iterate 2 refine qm ?_
  refine qp (K.Pure.eq (K.eql rfl rfl) (show _ = Value.bool true from congrArg Value.bool (by decide))) ?_
  refine qp (K.pick_t rfl) ?_
  iterate 2 refine qm ?_
  refine qp (K.Pure.eq (K.eql rfl rfl) (show _ = Value.bool true from congrArg Value.bool (by decide))) ?_
  refine qp (K.pick_t rfl) ?_
  iterate 2 refine qm ?_
  refine qp (K.Pure.eq (K.eql rfl rfl) (show _ = Value.bool true from congrArg Value.bool (by decide))) ?_
  refine qp (K.pick_t rfl) ?_
  iterate 2 refine qm ?_
  refine qp (K.Pure.eq (K.eql rfl rfl) (show _ = Value.bool true from congrArg Value.bool (by decide))) ?_
  refine qp (K.pick_t rfl) ?_
  iterate 2 refine qm ?_
  refine qp (K.Pure.eq (K.eql rfl rfl) (show _ = Value.bool true from congrArg Value.bool (by decide))) ?_
  refine qp (K.pick_t rfl) ?_
  iterate 2 refine qm ?_
  refine K.seq_new (K.buildSlice (bsI2 _ _)) rfl ?_
  intro b110
  refine zN ?_
  refine K.seq_call (K.call_g cal_28 (fun F w hF hw => c18t (xs := [2, 4]) (K.Rd.own (e := K.eI) hw (hF _ (K.m10)) hq1 (fun _ => rfl) (by decide)) (K.Rd.lit hw (hF _ (K.m0)) (fun _ => rfl) (by decide) rfl) (by decide))) rfl ?_
  refine zN ?_
  refine qp (K.pick_t rfl) ?_
  iterate 2 refine qm ?_
  refine K.seq_new (K.buildSlice (bsI2 _ _)) rfl ?_
  intro b115
  refine zN ?_
  refine K.seq_call (K.call_g cal_28 (fun F w hF hw => c18t (xs := [3, 2]) (K.Rd.own (e := K.eI) hw (hF _ (K.m10)) hq2 (fun _ => rfl) (by decide)) (K.Rd.lit hw (hF _ (K.m0)) (fun _ => rfl) (by decide) rfl) (by decide))) rfl ?_
  refine zN ?_
  refine qp (K.pick_t rfl) ?_
  iterate 2 refine qm ?_
  refine K.seq_new (K.buildSlice (bsI5 _ _ _ _ _)) rfl ?_
  intro b120
  refine zN ?_
  refine K.seq_call (K.call_g cal_28 (fun F w hF hw => c18t (xs := [0, 40, 50, 70, 40]) (K.Rd.own (e := K.eI) hw (hF _ (K.m10)) hq3 (fun _ => rfl) (by decide)) (K.Rd.lit hw (hF _ (K.m0)) (fun _ => rfl) (by decide) rfl) (by decide))) rfl ?_
  refine zN ?_
  refine qp (K.pick_t rfl) ?_
  iterate 2 refine qm ?_
  refine K.seq_new (K.buildSlice (bsI5 _ _ _ _ _)) rfl ?_
  intro b125
  refine zN ?_
  refine K.seq_call (K.call_g cal_28 (fun F w hF hw => c18t (xs := [0, 35, 45, 70, 38]) (K.Rd.own (e := K.eI) hw (hF _ (K.m10)) hq4 (fun _ => rfl) (by decide)) (K.Rd.lit hw (hF _ (K.m0)) (fun _ => rfl) (by decide) rfl) (by decide))) rfl ?_
  refine zN ?_
  refine qp (K.pick_t rfl) ?_
  iterate 2 refine qm ?_
  refine K.seq_new (K.buildSlice (bsI1 _)) rfl ?_
  intro b130
  refine zN ?_
  refine K.seq_call (K.call_g cal_28 (fun F w hF hw => c18t (xs := [1]) (K.Rd.own (e := K.eI) hw (hF _ (K.m10)) hq5 (fun _ => rfl) (by decide)) (K.Rd.lit hw (hF _ (K.m0)) (fun _ => rfl) (by decide) rfl) (by decide))) rfl ?_
  refine zN ?_
  refine qp (K.pick_t rfl) ?_
  iterate 2 refine qm ?_
  refine K.seq_new (K.buildSlice (bsI1 _)) rfl ?_
  intro b135
  refine zN ?_
  refine K.seq_call (K.call_g cal_28 (fun F w hF hw => c18t (xs := [1]) (K.Rd.own (e := K.eI) hw (hF _ (K.m10)) hq6 (fun _ => rfl) (by decide)) (K.Rd.lit hw (hF _ (K.m0)) (fun _ => rfl) (by decide) rfl) (by decide))) rfl ?_
  refine zN ?_
  refine qp (K.pick_t rfl) ?_
  iterate 2 refine qm ?_
  refine K.seq_new (K.buildSlice (bsI1 _)) rfl ?_
  intro b140
  refine zN ?_
  refine K.seq_call (K.call_g cal_28 (fun F w hF hw => c18t (xs := [1]) (K.Rd.own (e := K.eI) hw (hF _ (K.m10)) hq7 (fun _ => rfl) (by decide)) (K.Rd.lit hw (hF _ (K.m0)) (fun _ => rfl) (by decide) rfl) (by decide))) rfl ?_
  refine zN ?_
  refine qp (K.pick_t rfl) ?_
  iterate 2 refine qm ?_
  refine K.seq_new (K.buildSlice (bsI5 _ _ _ _ _)) rfl ?_
  intro b145
  refine zN ?_
  refine K.seq_call (K.call_g cal_28 (fun F w hF hw => c18t (xs := [0, 1, 1, 2, 3]) (K.Rd.own (e := K.eI) hw (hF _ (K.m10)) hq8 (fun _ => rfl) (by decide)) (K.Rd.lit hw (hF _ (K.m0)) (fun _ => rfl) (by decide) rfl) (by decide))) rfl ?_
  refine zN ?_
  refine qp (K.pick_t rfl) ?_
  iterate 2 refine qm ?_
  refine qp (K.Pure.eq (K.eql rfl rfl) (show _ = Value.bool true from congrArg Value.bool (by decide))) ?_
  refine qp (K.pick_t rfl) ?_
  iterate 2 refine qm ?_
  refine K.seq_new (K.buildSlice (bsI5 _ _ _ _ _)) rfl ?_
  intro b154
  refine zN ?_
  refine K.seq_call (K.call_g cal_28 (fun F w hF hw => c18t (xs := [0, 35, 45, 70, 38]) (K.Rd.own (e := K.eI) hw (hF _ (K.m10)) hq9 (fun _ => rfl) (by decide)) (K.Rd.lit hw (hF _ (K.m0)) (fun _ => rfl) (by decide) rfl) (by decide))) rfl ?_
  refine zN ?_
  refine qp (K.pick_t rfl) ?_
  refine qa ?_
  refine sn ?_
  refine K.ret ?_
  refine K.end_ret (fun w _ => K.res_tmp rfl w) ?_
  exact K.gives rfl

end Go.Proofs.YtekkpcpbnonkaaaGreatDoor.Rv
end
section
set_option linter.unusedSimpArgs false
set_option linter.unusedVariables false
namespace Go.Proofs.YtekkpcpbnonkaaaGreatDoor.Rv
open Go.RowKit Go
open Go.K (setd setn ev nth over cl eI eP eT setM setF)
attribute [local irreducible] K.blk K.row
theorem bs0r : K.Bs Tryz.prog 22 0 [] 34 [] := fun w => by kernel_rfl

set_option maxRecDepth 100000 in
set_option maxHeartbeats 1000000 in
theorem cHigh {r : List RvT} {A : Option Addr} {c : Nat} {H : Option Addr} {d : Nat} {hs : List Int} {w : World} (hR : K.Rd w A 4 eR r) (hH : K.Rd w H 1 K.eI hs) (hl : hs.length = r.length) (hn : r.length ≤ 9) :
    Calls Tryz.prog 14 [.slice A r.length c, .slice H hs.length d].toArray w (K.RetS 34 4 eR (wthS r hs) w) := by
  refine K.enter (args := [.slice A r.length c, .slice H hs.length d]) Tryz.func14 rfl (n := 29) rfl ?_
  simp only [List.replicate, List.cons_append, List.nil_append]
  refine sr ?_
  refine qa ?_
  refine sn ?_
  refine sr ?_
  refine K.seq_new (K.buildSlice (bs0r)) rfl ?_
  intro b7
  try dsimp only [setd, setn, ev, nth, over, cl, eI, eP, eT, List.map, List.append, List.drop, List.take]
  refine qm ?_
  refine K.blk_row0 (size := 4) ?_
  refine K.seq_upd (K.appendS el_22 rfl rfl hR.sl eR_len (oneR _) (by omega) (by omega) (fun _ _ => K.rp0)) rfl ?_
  rintro ⟨A9, c9⟩ _
  try dsimp only [setd, setn, ev, nth, over, cl, eI, eP, eT, List.map, List.append, List.drop, List.take]
  simp only [Nat.zero_add, List.nil_append]
  try dsimp only [setd, setn, ev, nth, over, cl, eI, eP, eT, List.map, List.append, List.drop, List.take]
  refine qa ?_
  refine sn ?_
  refine K.seq ?_
  refine K.seq ?_
  refine K.use_rowc K.m0 (fun hA9 hc9 => ?_)
  refine K.region_lit ?_
  refine qa ?_
  refine sn ?_
  refine K.block ?_
  refine K.loopW [6] [10, 11, 12, 13, 14, 15, 16, 17, 18, 19, 20, 21, 22, 23, 24, 25, 26, 27, 28, 29] (fun vi L => ∃ k : Nat, vi = [.int .i64 (k : Int)] ∧ L = [K.row (.slice A9 r.length c9) 34 4 r.length ((wthP r hs k).flatMap eR)] ∧ k ≤ r.length) (fun vi => r.length - (intOf (K.nth vi 0)).toNat) ?_ ?_
  · exact ⟨0, rfl, by rw [wp_0], Nat.zero_le _⟩
  intro vi vr L hJ
  obtain ⟨k, rfl, rfl, hkn⟩ := hJ
  try dsimp only [setd, setn, ev, nth, over, cl, eI, eP, eT, setM, setF, List.map, List.append, List.drop, List.take]
  refine K.seq ?_
  refine sr ?_
  iterate 2 refine qm ?_
  refine qp (K.len_sl sl_22 rfl) ?_
  refine qp (K.lss rfl rfl) ?_
  refine qm ?_
  refine K.split 14 rfl (fun hg14 => ?_) (fun hg14 => ?_)
  · try replace hg14 := of_decide_eq_true hg14
    iterate 2 refine qm ?_
    refine qp (K.len_sl sl_28 rfl) ?_
    refine qp (K.lss rfl rfl) ?_
    refine qp (K.pick_t rfl) ?_
    refine sn ?_
    refine K.cond rfl (fun ht19 => ?_) (fun ht19 => ?_)
    · try replace ht19 := of_decide_eq_true ht19
      have hk : k < r.length := by omega
      obtain ⟨gb, rfl⟩ := hA9.resolve_left (by omega)
      have hlk : (wthP r hs k).length = r.length := wp_len
      have hfit : 0 + k * 4 + 3 + 1 ≤ ((wthP r hs k).flatMap eR).length := by rw [K.flat_len (size := 4) eR_len]; omega
      have hset : K.over ((wthP r hs k).flatMap eR) (0 + k * 4 + 3) [.int .i64 (hs.getD k default)] = (wthP r hs (k + 1)).flatMap eR := by rw [K.set_fld (x' := { (wthP r hs k).getD k default with ht := hs.getD k default }) eR_len (by show 3 + 1 ≤ 4; decide) (by omega) rfl, wp_set hk]
      refine K.skip ?_
      refine K.norm_then ?_
      refine K.seq ?_
      refine K.block ?_
      refine K.region_lit ?_
      iterate 4 refine qm ?_
      refine K.seq_ix (M := []) _ hH.sl sl_28 rfl rfl rfl (by omega) rfl ?_
      intro p26 hp26
      try dsimp only [setd, setn, ev, nth, over, cl, eI, eP, eT, List.map, List.append, List.drop, List.take]
      refine K.seq_sil (K.load1 one_3 rfl (hp26.any)) rfl ?_
      try dsimp only [setd, setn, ev, nth, over, cl, eI, eP, eT, List.map, List.append, List.drop, List.take]
      refine K.seq_pure (K.Pure.eq (K.indexAddr_sl sl_22 rfl rfl (by omega) (by omega)) (show _ = Value.pointer (some ⟨gb, 0 + k * 4, none⟩) from by rw [K.add_lit, Int.toNat_natCast])) rfl ?_
      refine zN ?_
      try dsimp only [setd, setn, ev, nth, over, cl, eI, eP, eT, List.map, List.append, List.drop, List.take]
      refine qp (K.Pure.eq (K.fieldAddr fo_34_3 rfl) (show _ = Value.pointer (some ⟨gb, 0 + k * 4 + 3, none⟩) from by rw [K.add_lit])) ?_
      refine K.seq_st (K.store_row (xs := (wthP r hs k).flatMap eR) (j := 0 + k * 4 + 3) sz_3 rfl rfl hfit rfl (K.rpe K.rp0 (congrArg (K.row (.slice (some ⟨gb, 0, none⟩) r.length c9) 34 4 r.length) hset.symm))) rfl ?_
      refine zN ?_
      try dsimp only [setd, setn, ev, nth, over, cl, eI, eP, eT, List.map, List.append, List.drop, List.take]
      refine K.seq_nil ?_
      refine K.norm_block ?_
      refine K.norm_then ?_
      refine K.region_lit ?_
      refine qm ?_
      refine qp (K.add_i64 rfl rfl (by omega)) ?_
      refine qa ?_
      refine K.seq_nil ?_
      exact K.round_endW (L'' := [K.row (.slice (some ⟨gb, 0, none⟩) r.length c9) 34 4 r.length ((wthP r hs (k + 1)).flatMap eR)]) [.int .i64 ((k : Int) + 1)] ⟨k + 1, rfl, rfl, by omega⟩ (by simp [K.nth, intOf]; omega) (List.Sublist.refl _) (by kernel_rfl)
    try replace ht19 := of_decide_eq_false ht19
    refine K.exit ?_
    refine K.exit_then ?_
    refine K.exit_then ?_
    refine K.exit_here ?_
    refine K.norm_then ?_
    refine sr ?_
    refine qm ?_
    refine qa ?_
    refine sn ?_
    refine K.ret ?_
    refine K.end_ret (fun w _ => K.res_tmp rfl w) ?_
    have e0 : k = r.length := by omega
    subst e0
    have en := w_len (r := r) (l := hs)
    exact K.rets_s K.m0 en.symm rfl rfl
  try replace hg14 := of_decide_eq_false hg14
  refine K.seq_skip ?_ ?_
  · rfl
  try dsimp only [setd, setn, ev, nth, over, cl, eI, eP, eT, List.map, List.append, List.drop, List.take]
  refine K.seq_skip ?_ ?_
  · rfl
  try dsimp only [setd, setn, ev, nth, over, cl, eI, eP, eT, List.map, List.append, List.drop, List.take]
  refine K.seq_skip ?_ ?_
  · rfl
  try dsimp only [setd, setn, ev, nth, over, cl, eI, eP, eT, List.map, List.append, List.drop, List.take]
  refine K.seq_skip ?_ ?_
  · rfl
  try dsimp only [setd, setn, ev, nth, over, cl, eI, eP, eT, List.map, List.append, List.drop, List.take]
  refine qp (K.pick_f rfl) ?_
  refine sn ?_
  refine K.cond_false rfl ?_
  refine K.exit ?_
  refine K.exit_then ?_
  refine K.exit_then ?_
  refine K.exit_here ?_
  refine K.norm_then ?_
  refine sr ?_
  refine qm ?_
  refine qa ?_
  refine sn ?_
  refine K.ret ?_
  refine K.end_ret (fun w _ => K.res_tmp rfl w) ?_
  have e0 : k = r.length := by omega
  subst e0
  have en := w_len (r := r) (l := hs)
  exact K.rets_s K.m0 en.symm rfl rfl

end Go.Proofs.YtekkpcpbnonkaaaGreatDoor.Rv
end
section
set_option linter.unusedSimpArgs false
set_option linter.unusedVariables false
namespace Go.Proofs.YtekkpcpbnonkaaaGreatDoor.Rv
open Go.RowKit Go
open Go.K (setd setn ev nth over cl eI eP eT setM setF)
attribute [local irreducible] K.blk K.row

theorem bs3V (A B C : Option Addr) (m n k c d e : Nat) : K.Bs Tryz.prog 35 3 [(0, .slice A m c), (1, .slice B n d), (2, .slice C k e)] 28 [.slice A m c, .slice B n d, .slice C k e] := fun w => by kernel_rfl
theorem bs0t : K.Bs Tryz.prog 22 0 [] 34 [] := fun w => by kernel_rfl
theorem bl38 (k : Int) (S : Option Addr) (n c : Nat) : K.Bl Tryz.prog 38 [(0, .int .i64 k), (2, .int .i64 100000), (3, .slice S n c)] (.agg #[.int .i64 k, .int .i64 0, .int .i64 100000, .slice S n c, .slice none 0 0]) := fun w => by kernel_rfl
def three {E : Type} (n : Nat) (a b c : E) : E := if n = 0 then a else if n = 1 then b else c
theorem three_sl {A B C : Option Addr} {xs ys zs : List Int} {c d e n : Nat} (h : n < 3) : (List.drop 0 [Value.slice A xs.length c, .slice B ys.length d, .slice C zs.length e])[0 + n * 1]? = some (.slice (three n A B C) (three n xs ys zs).length (three n c d e)) := by
  rcases (show n = 0 ∨ n = 1 ∨ n = 2 by omega) with rfl | rfl | rfl <;> rfl
theorem rd_three {w : World} {A B C : Option Addr} {xs ys zs : List Int} {n : Nat} (h1 : K.Rd w A 1 K.eI xs) (h2 : K.Rd w B 1 K.eI ys) (h3 : K.Rd w C 1 K.eI zs) : K.Rd w (three n A B C) 1 K.eI (three n xs ys zs) := by
  unfold three
  split
  · exact h1
  · split
    · exact h2
    · exact h3
theorem three_runs {r : List RvT} {n : Nat} (hc : (chk r).2.2 = 0) (h : (three n (fillL r) (carveL r) (lstL r)).length ≠ 0) : Runs r (three n (fillL r) (carveL r) (lstL r)) := by
  unfold three at h ⊢
  split
  · rename_i h0
    rw [if_pos h0] at h
    refine (fill_ok ?_).2
    refine Classical.byContradiction fun he => h ?_
    unfold fillL; rw [if_neg he]; rfl
  · rename_i h0
    rw [if_neg h0] at h
    split
    · rename_i h1
      rw [if_pos h1] at h
      refine (carve_ok ?_).2
      refine Classical.byContradiction fun he => h ?_
      unfold carveL; rw [if_neg he]; rfl
    · exact (least_L hc).1
def farB (l : List Int) (k : Nat) : Bool := (List.range k).any fun i => decide (l.getD i default > 9000)
theorem far_s {l : List Int} {k : Nat} : farB l (k + 1) = (farB l k || decide (l.getD k default > 9000)) := by
  unfold farB; rw [List.range_succ, List.any_append]; simp
theorem far_no {l : List Int} (h : farB l l.length = false) : ∀ j, j < l.length → l.getD j default ≤ 9000 := fun j hj => by
  have := List.any_eq_false.1 h j (List.mem_range.2 hj)
  simpa using this

set_option maxRecDepth 100000 in
theorem e3 {r : List RvT} {A : Option Addr} {c : Nat} {z x0 x1 : Int} {w : World} (hR : K.Rd w A 4 eR r) (hn : r.length ≤ 17592186043904) (hT : Tab w) (hz : 0 ≤ z ∧ z ≤ 255) (hx0 : 0 ≤ x0 ∧ x0 ≤ 255) (hx1 : 0 ≤ x1 ∧ x1 ≤ 255) (he : (chk r).2.2 ≠ 0 ∨ r.length > 8) :
    Calls Tryz.prog 3 [.slice A r.length c, .int .u8 z, .agg #[.int .u8 x0, .int .u8 x1]].toArray w (K.Gives (.bool true) w) := by
  have hn4 : r.length ≤ 4611686018427387904 := by omega
  refine K.enter (args := [.slice A r.length c, .int .u8 z, .agg #[.int .u8 x0, .int .u8 x1]]) Tryz.func3 rfl (n := 185) rfl ?_
  simp only [List.replicate, List.cons_append, List.nil_append]
  refine sr ?_
  refine K.seq_new (K.box) rfl ?_
  intro b5
  try dsimp only [setd, setn, ev, nth, over, cl, eI, eP, eT, List.map, List.append, List.drop, List.take]
  refine qa ?_
  refine sn ?_
  refine sr ?_
  refine qm ?_
  refine K.seq_call (K.call_g cal_4 (fun F w hF hw => c15 (hR.pass hw) hn4)) rfl ?_
  try dsimp only [setd, setn, ev, nth, over, cl, eI, eP, eT, List.map, List.append, List.drop, List.take]
  refine qm ?_
  refine qx ?_
  refine qx ?_
  refine qx ?_
  iterate 3 refine qa ?_
  refine sn ?_
  refine K.seq ?_
  refine sr ?_
  refine qm ?_
  refine qp (K.neq rfl rfl) ?_
  refine qm ?_
  refine K.split 38 rfl (fun hg38 => ?_) (fun hg38 => ?_)
  · try replace hg38 := of_decide_eq_true hg38
    refine K.seq_skip ?_ ?_
    · rfl
    try dsimp only [setd, setn, ev, nth, over, cl, eI, eP, eT, List.map, List.append, List.drop, List.take]
    refine K.seq_skip ?_ ?_
    · rfl
    try dsimp only [setd, setn, ev, nth, over, cl, eI, eP, eT, List.map, List.append, List.drop, List.take]
    refine K.seq_skip ?_ ?_
    · rfl
    try dsimp only [setd, setn, ev, nth, over, cl, eI, eP, eT, List.map, List.append, List.drop, List.take]
    refine qp (K.pick_t rfl) ?_
    refine sn ?_
    refine K.cond_true rfl ?_
    refine sr ?_
    refine K.seq_call (K.call_g cal_5 (fun F w hF hw => Sc.c26 w)) rfl ?_
    try dsimp only [setd, setn, ev, nth, over, cl, eI, eP, eT, List.map, List.append, List.drop, List.take]
    refine qm ?_
    refine K.seq_call (K.call_g cal_6 (fun F w hF hw => c25 (hT.pass hw))) rfl ?_
    try dsimp only [setd, setn, ev, nth, over, cl, eI, eP, eT, List.map, List.append, List.drop, List.take]
    refine qp (K.pick_t rfl) ?_
    refine qa ?_
    refine sn ?_
    refine K.ret ?_
    refine K.ret_then ?_
    refine K.end_ret (fun w _ => K.res_tmp rfl w) ?_
    exact K.gives rfl
  try replace hg38 := of_decide_eq_false hg38
  refine qm ?_
  refine qp (K.len_sl sl_22 rfl) ?_
  refine qp (K.Pure.eq (K.gtr rfl rfl) (show _ = Value.bool true from congrArg Value.bool (decide_eq_true (by omega)))) ?_
  refine qp (K.pick_f rfl) ?_
  refine sn ?_
  refine K.cond_true rfl ?_
  refine sr ?_
  refine K.seq_call (K.call_g cal_5 (fun F w hF hw => Sc.c26 w)) rfl ?_
  try dsimp only [setd, setn, ev, nth, over, cl, eI, eP, eT, List.map, List.append, List.drop, List.take]
  refine qm ?_
  refine K.seq_call (K.call_g cal_6 (fun F w hF hw => c25 (hT.pass hw))) rfl ?_
  try dsimp only [setd, setn, ev, nth, over, cl, eI, eP, eT, List.map, List.append, List.drop, List.take]
  refine qp (K.pick_t rfl) ?_
  refine qa ?_
  refine sn ?_
  refine K.ret ?_
  refine K.ret_then ?_
  refine K.end_ret (fun w _ => K.res_tmp rfl w) ?_
  exact K.gives rfl

set_option maxRecDepth 100000 in
set_option maxHeartbeats 4000000 in
theorem g3 {r : List RvT} {A : Option Addr} {c : Nat} {z x0 x1 : Int} {w : World} (hR : K.Rd w A 4 eR r) (hn : r.length ≤ 17592186043904) (hT : Tab w) (hz : 0 ≤ z ∧ z ≤ 255) (hx0 : 0 ≤ x0 ∧ x0 ≤ 255) (hx1 : 0 ≤ x1 ∧ x1 ≤ 255) (hc : (chk r).2.2 = 0) (h8 : r.length ≤ 8) :
    Calls Tryz.prog 3 [.slice A r.length c, .int .u8 z, .agg #[.int .u8 x0, .int .u8 x1]].toArray w (K.Gives (.bool true) w) := by
  have hn4 : r.length ≤ 4611686018427387904 := by omega
  have g : Good r := chk_good hc
  have hgn := g.n
  have hfc := fillE_cases hc
  have hcc := carveE_cases hc
  have hm0 := Int.emod_nonneg z (show (3 : Int) ≠ 0 by decide)
  have hm1 := Int.emod_lt_of_pos z (show (0 : Int) < 3 by decide)
  have hS := lv_len (r := r)
  refine K.enter (args := [.slice A r.length c, .int .u8 z, .agg #[.int .u8 x0, .int .u8 x1]]) Tryz.func3 rfl (n := 185) rfl ?_
  simp only [List.replicate, List.cons_append, List.nil_append]
  refine sr ?_
  refine K.seq_new (K.box) rfl ?_
  intro b5
  try dsimp only [setd, setn, ev, nth, over, cl, eI, eP, eT, List.map, List.append, List.drop, List.take]
  refine qa ?_
  refine sn ?_
  refine sr ?_
  refine qm ?_
  refine K.seq_call (K.call_g cal_4 (fun F w hF hw => c15 (hR.pass hw) hn4)) rfl ?_
  try dsimp only [setd, setn, ev, nth, over, cl, eI, eP, eT, List.map, List.append, List.drop, List.take]
  refine qm ?_
  refine qx ?_
  refine qx ?_
  refine qx ?_
  iterate 3 refine qa ?_
  refine sn ?_
  refine K.seq ?_
  refine sr ?_
  refine qm ?_
  refine qp (K.Pure.eq (K.neq rfl rfl) (show _ = Value.bool false from congrArg Value.bool (decide_eq_false (by omega)))) ?_
  iterate 2 refine qm ?_
  refine qp (K.len_sl sl_22 rfl) ?_
  refine qp (K.Pure.eq (K.gtr rfl rfl) (show _ = Value.bool false from congrArg Value.bool (decide_eq_false (by omega)))) ?_
  refine qp (K.pick_f rfl) ?_
  refine sn ?_
  refine K.cond_false rfl ?_
  refine K.skip ?_
  refine K.norm_then ?_
  refine sr ?_
  refine qm ?_
  refine K.seq_loud (K.call_f cal_7 (fun F w hF hw => c21 (hR.pass hw) hn4)) rfl ?_
  rintro ⟨Q1, q1⟩ hq1
  try dsimp only [setd, setn, ev, nth, over, cl, eI, eP, eT, List.map, List.append, List.drop, List.take]
  refine qm ?_
  refine qx ?_
  refine qx ?_
  iterate 2 refine qa ?_
  refine sn ?_
  refine sr ?_
  refine qm ?_
  refine K.seq_loud (K.call_f cal_8 (fun F w hF hw => c23 (hR.pass hw) hn4)) rfl ?_
  rintro ⟨Q2, q2⟩ hq2
  try dsimp only [setd, setn, ev, nth, over, cl, eI, eP, eT, List.map, List.append, List.drop, List.take]
  refine qm ?_
  refine qx ?_
  refine qx ?_
  iterate 2 refine qa ?_
  refine sn ?_
  refine sr ?_
  refine qm ?_
  refine K.seq_loud (K.call_f cal_9 (fun F w hF hw => (by have hg := c32 (c := c) (hR.pass hw) hn4; rw [hc] at hg; exact hg))) rfl ?_
  rintro ⟨Q3, q3⟩ hq3
  try dsimp only [setd, setn, ev, nth, over, cl, eI, eP, eT, List.map, List.append, List.drop, List.take]
  refine qm ?_
  refine qx ?_
  refine qx ?_
  refine qx ?_
  iterate 3 refine qa ?_
  refine sn ?_
  refine K.seq ?_
  refine K.seq ?_
  refine K.joinW [80] [63, 64, 65, 66, 67, 68, 69, 70, 71, 72, 73, 74, 75, 76, 77, 78, 79] (fun vi L => vi = [.bool false] ∧ L = [K.row (.slice Q3 (lstL r).length q3) 3 1 (lstL r).length ((lstL r).flatMap K.eI), K.row (.slice Q2 (carveL r).length q2) 3 1 (carveL r).length ((carveL r).flatMap K.eI), K.row (.slice Q1 (fillL r).length q1) 3 1 (fillL r).length ((fillL r).flatMap K.eI), K.blk b5 23 [.int .u8 x0, .int .u8 x1]]) ?_ ?_
  · refine K.region_lit ?_
    refine qm ?_
    refine qp (K.neq rfl rfl) ?_
    refine qm ?_
    refine K.split 65 rfl (fun hg65 => ?_) (fun hg65 => ?_)
    · try replace hg65 := of_decide_eq_true hg65
      refine qm ?_
      refine qp (K.Pure.eq (K.neq rfl rfl) (show _ = Value.bool false from congrArg Value.bool (decide_eq_false (by omega)))) ?_
      refine qp (K.pick_t rfl) ?_
      iterate 2 refine qm ?_
      refine qp (K.neq rfl rfl) ?_
      refine qm ?_
      refine K.split 72 rfl (fun hg72 => ?_) (fun hg72 => ?_)
      · try replace hg72 := of_decide_eq_true hg72
        refine qm ?_
        refine qp (K.Pure.eq (K.neq rfl rfl) (show _ = Value.bool false from congrArg Value.bool (decide_eq_false (by omega)))) ?_
        refine qp (K.pick_t rfl) ?_
        refine qp (K.pick_f rfl) ?_
        iterate 2 refine qm ?_
        refine qp (K.Pure.eq (K.neq rfl rfl) (show _ = Value.bool false from congrArg Value.bool (decide_eq_false (fun h => h rfl)))) ?_
        refine qp (K.pick_f rfl) ?_
        refine K.seq_nil ?_
        exact K.join_here (L' := [K.row (.slice Q3 (lstL r).length q3) 3 1 (lstL r).length ((lstL r).flatMap K.eI), K.row (.slice Q2 (carveL r).length q2) 3 1 (carveL r).length ((carveL r).flatMap K.eI), K.row (.slice Q1 (fillL r).length q1) 3 1 (fillL r).length ((fillL r).flatMap K.eI), K.blk b5 23 [.int .u8 x0, .int .u8 x1]]) [.bool false] ⟨rfl, rfl⟩ (fun w h => h) (by kernel_rfl)
      try replace hg72 := of_decide_eq_false hg72
      refine K.seq_skip ?_ ?_
      · rfl
      try dsimp only [setd, setn, ev, nth, over, cl, eI, eP, eT, List.map, List.append, List.drop, List.take]
      refine K.seq_skip ?_ ?_
      · rfl
      try dsimp only [setd, setn, ev, nth, over, cl, eI, eP, eT, List.map, List.append, List.drop, List.take]
      refine qp (K.pick_f rfl) ?_
      refine qp (K.pick_f rfl) ?_
      iterate 2 refine qm ?_
      refine qp (K.Pure.eq (K.neq rfl rfl) (show _ = Value.bool false from congrArg Value.bool (decide_eq_false (fun h => h rfl)))) ?_
      refine qp (K.pick_f rfl) ?_
      refine K.seq_nil ?_
      exact K.join_here (L' := [K.row (.slice Q3 (lstL r).length q3) 3 1 (lstL r).length ((lstL r).flatMap K.eI), K.row (.slice Q2 (carveL r).length q2) 3 1 (carveL r).length ((carveL r).flatMap K.eI), K.row (.slice Q1 (fillL r).length q1) 3 1 (fillL r).length ((fillL r).flatMap K.eI), K.blk b5 23 [.int .u8 x0, .int .u8 x1]]) [.bool false] ⟨rfl, rfl⟩ (fun w h => h) (by kernel_rfl)
    try replace hg65 := of_decide_eq_false hg65
    refine K.seq_skip ?_ ?_
    · rfl
    try dsimp only [setd, setn, ev, nth, over, cl, eI, eP, eT, List.map, List.append, List.drop, List.take]
    refine K.seq_skip ?_ ?_
    · rfl
    try dsimp only [setd, setn, ev, nth, over, cl, eI, eP, eT, List.map, List.append, List.drop, List.take]
    refine qp (K.pick_f rfl) ?_
    iterate 2 refine qm ?_
    refine qp (K.neq rfl rfl) ?_
    refine qm ?_
    refine K.split 72 rfl (fun hg72 => ?_) (fun hg72 => ?_)
    · try replace hg72 := of_decide_eq_true hg72
      refine qm ?_
      refine qp (K.Pure.eq (K.neq rfl rfl) (show _ = Value.bool false from congrArg Value.bool (decide_eq_false (by omega)))) ?_
      refine qp (K.pick_t rfl) ?_
      refine qp (K.pick_f rfl) ?_
      iterate 2 refine qm ?_
      refine qp (K.Pure.eq (K.neq rfl rfl) (show _ = Value.bool false from congrArg Value.bool (decide_eq_false (fun h => h rfl)))) ?_
      refine qp (K.pick_f rfl) ?_
      refine K.seq_nil ?_
      exact K.join_here (L' := [K.row (.slice Q3 (lstL r).length q3) 3 1 (lstL r).length ((lstL r).flatMap K.eI), K.row (.slice Q2 (carveL r).length q2) 3 1 (carveL r).length ((carveL r).flatMap K.eI), K.row (.slice Q1 (fillL r).length q1) 3 1 (fillL r).length ((fillL r).flatMap K.eI), K.blk b5 23 [.int .u8 x0, .int .u8 x1]]) [.bool false] ⟨rfl, rfl⟩ (fun w h => h) (by kernel_rfl)
    try replace hg72 := of_decide_eq_false hg72
    refine K.seq_skip ?_ ?_
    · rfl
    try dsimp only [setd, setn, ev, nth, over, cl, eI, eP, eT, List.map, List.append, List.drop, List.take]
    refine K.seq_skip ?_ ?_
    · rfl
    try dsimp only [setd, setn, ev, nth, over, cl, eI, eP, eT, List.map, List.append, List.drop, List.take]
    refine qp (K.pick_f rfl) ?_
    refine qp (K.pick_f rfl) ?_
    iterate 2 refine qm ?_
    refine qp (K.Pure.eq (K.neq rfl rfl) (show _ = Value.bool false from congrArg Value.bool (decide_eq_false (fun h => h rfl)))) ?_
    refine qp (K.pick_f rfl) ?_
    refine K.seq_nil ?_
    exact K.join_here (L' := [K.row (.slice Q3 (lstL r).length q3) 3 1 (lstL r).length ((lstL r).flatMap K.eI), K.row (.slice Q2 (carveL r).length q2) 3 1 (carveL r).length ((carveL r).flatMap K.eI), K.row (.slice Q1 (fillL r).length q1) 3 1 (fillL r).length ((fillL r).flatMap K.eI), K.blk b5 23 [.int .u8 x0, .int .u8 x1]]) [.bool false] ⟨rfl, rfl⟩ (fun w h => h) (by kernel_rfl)
  intro vi vr L hJ
  obtain ⟨rfl, rfl⟩ := hJ
  try dsimp only [setd, setn, ev, nth, over, cl, eI, eP, eT, setM, setF, List.map, List.append, List.drop, List.take]
  refine K.norm_then ?_
  refine K.cond_false rfl ?_
  refine K.skip ?_
  refine K.norm_then ?_
  refine sr ?_
  refine K.seq_new (K.buildSlice (bs0t)) rfl ?_
  intro b81
  try dsimp only [setd, setn, ev, nth, over, cl, eI, eP, eT, List.map, List.append, List.drop, List.take]
  refine qm ?_
  refine K.blk_row0 (size := 4) ?_
  refine K.seq_upd (K.appendS el_22 rfl rfl hR.sl eR_len (oneR _) (by omega) (by omega) (fun _ _ => K.rp0)) rfl ?_
  rintro ⟨A83, c83⟩ _
  try dsimp only [setd, setn, ev, nth, over, cl, eI, eP, eT, List.map, List.append, List.drop, List.take]
  simp only [Nat.zero_add, List.nil_append]
  try dsimp only [setd, setn, ev, nth, over, cl, eI, eP, eT, List.map, List.append, List.drop, List.take]
  refine qa ?_
  refine sn ?_
  refine K.seq ?_
  refine K.seq ?_
  refine K.use_rowc K.m0 (fun hA83 hc83 => ?_)
  refine K.region_lit ?_
  refine qa ?_
  refine sn ?_
  refine K.block ?_
  refine K.loopW [17] [84, 85, 86, 87, 88, 89, 90, 91, 92, 93] (fun vi L => ∃ k : Nat, vi = [.int .i64 (k : Int)] ∧ L = [K.row (.slice A83 r.length c83) 34 4 r.length ((mapP lvF r k).flatMap eR), K.row (.slice Q3 (lstL r).length q3) 3 1 (lstL r).length ((lstL r).flatMap K.eI), K.row (.slice Q2 (carveL r).length q2) 3 1 (carveL r).length ((carveL r).flatMap K.eI), K.row (.slice Q1 (fillL r).length q1) 3 1 (fillL r).length ((fillL r).flatMap K.eI), K.blk b5 23 [.int .u8 x0, .int .u8 x1]] ∧ k ≤ r.length) (fun vi => r.length - (intOf (K.nth vi 0)).toNat) ?_ ?_
  · exact ⟨0, rfl, by rw [mp_0], Nat.zero_le _⟩
  intro vi vr L hJ
  obtain ⟨k, rfl, rfl, hkn⟩ := hJ
  try dsimp only [setd, setn, ev, nth, over, cl, eI, eP, eT, setM, setF, List.map, List.append, List.drop, List.take]
  refine K.seq ?_
  refine sr ?_
  iterate 2 refine qm ?_
  refine qp (K.len_sl sl_22 rfl) ?_
  refine qp (K.lss rfl rfl) ?_
  refine sn ?_
  refine K.cond rfl (fun ht87 => ?_) (fun ht87 => ?_)
  · try replace ht87 := of_decide_eq_true ht87
    have hk : k < r.length := by omega
    obtain ⟨gb, rfl⟩ := hA83.resolve_left (by omega)
    have hlk : (mapP lvF r k).length = r.length := mp_len
    have hfit : 0 + k * 4 + 2 + 1 ≤ ((mapP lvF r k).flatMap eR).length := by rw [K.flat_len (size := 4) eR_len]; omega
    have hat : (mapP lvF r k).getD k default = r.getD k default := by rw [mp_at hk, if_neg (Nat.lt_irrefl k)]
    have hset : K.over ((mapP lvF r k).flatMap eR) (0 + k * 4 + 2) [.int .i64 0] = (mapP lvF r (k + 1)).flatMap eR := by rw [K.set_fld (x' := { (mapP lvF r k).getD k default with ls := 0 }) eR_len (by show 2 + 1 ≤ 4; decide) (by omega) rfl, hat]; exact congrArg (List.flatMap eR) (mp_set (f := lvF) hk)
    refine K.skip ?_
    refine K.norm_then ?_
    refine K.seq ?_
    refine K.block ?_
    refine K.region_lit ?_
    iterate 2 refine qm ?_
    refine K.seq_pure (K.Pure.eq (K.indexAddr_sl sl_22 rfl rfl (by omega) (by omega)) (show _ = Value.pointer (some ⟨gb, 0 + k * 4, none⟩) from by rw [K.add_lit, Int.toNat_natCast])) rfl ?_
    try dsimp only [setd, setn, ev, nth, over, cl, eI, eP, eT, List.map, List.append, List.drop, List.take]
    try dsimp only [setd, setn, ev, nth, over, cl, eI, eP, eT, List.map, List.append, List.drop, List.take]
    refine qp (K.Pure.eq (K.fieldAddr fo_34_2 rfl) (show _ = Value.pointer (some ⟨gb, 0 + k * 4 + 2, none⟩) from by rw [K.add_lit])) ?_
    refine K.seq_st (K.store_row (xs := (mapP lvF r k).flatMap eR) (j := 0 + k * 4 + 2) sz_3 rfl rfl hfit rfl (K.rpe K.rp0 (congrArg (K.row (.slice (some ⟨gb, 0, none⟩) r.length c83) 34 4 r.length) hset.symm))) rfl ?_
    try dsimp only [setd, setn, ev, nth, over, cl, eI, eP, eT, List.map, List.append, List.drop, List.take]
    try dsimp only [setd, setn, ev, nth, over, cl, eI, eP, eT, List.map, List.append, List.drop, List.take]
    refine K.seq_nil ?_
    refine K.norm_block ?_
    refine K.norm_then ?_
    refine K.region_lit ?_
    refine qm ?_
    refine qp (K.add_i64 rfl rfl (by omega)) ?_
    refine qa ?_
    refine K.seq_nil ?_
    exact K.round_endW (L'' := [K.row (.slice (some ⟨gb, 0, none⟩) r.length c83) 34 4 r.length ((mapP lvF r (k + 1)).flatMap eR), K.row (.slice Q3 (lstL r).length q3) 3 1 (lstL r).length ((lstL r).flatMap K.eI), K.row (.slice Q2 (carveL r).length q2) 3 1 (carveL r).length ((carveL r).flatMap K.eI), K.row (.slice Q1 (fillL r).length q1) 3 1 (fillL r).length ((fillL r).flatMap K.eI), K.blk b5 23 [.int .u8 x0, .int .u8 x1]]) [.int .i64 ((k : Int) + 1)] ⟨k + 1, rfl, rfl, by omega⟩ (by simp [K.nth, intOf]; omega) (List.Sublist.refl _) (by kernel_rfl)
  try replace ht87 := of_decide_eq_false ht87
  have e0 : k = r.length := by omega
  subst e0
  refine K.exit ?_
  refine K.exit_then ?_
  refine K.exit_then ?_
  refine K.exit_here ?_
  refine K.norm_then ?_
  refine sr ?_
  iterate 3 refine qm ?_
  refine K.seq_new (K.buildSlice (bs3V _ _ _ _ _ _ _ _ _)) rfl ?_
  intro b97
  try dsimp only [setd, setn, ev, nth, over, cl, eI, eP, eT, List.map, List.append, List.drop, List.take]
  refine qa ?_
  refine sn ?_
  refine K.seq ?_
  refine sr ?_
  refine qa ?_
  refine sn ?_
  refine K.block ?_
  refine K.loopW [19] [6, 20, 21, 22, 23, 24, 25, 26, 27, 28, 29, 98, 99, 100, 101, 102, 103, 104, 105, 106, 107, 108, 109, 110, 111, 112, 113, 114, 115, 116, 117, 118, 119, 120, 121, 122, 123, 124, 125, 126, 127, 128, 129, 130, 131, 132, 133, 134, 135, 136, 137, 138, 139, 140, 141, 142, 143, 144, 145, 146, 147, 148, 149, 150, 151, 152, 153, 154, 155, 156, 157, 158, 159, 160, 161, 162, 163, 164, 165, 166, 167, 168, 169, 170, 171, 172, 173, 174, 175, 176, 177, 178, 179, 180, 181, 182, 183] (fun vi L => ∃ n : Nat, vi = [.int .i64 (n : Int)] ∧ L = [K.blk b97 28 [.slice Q1 (fillL r).length q1, .slice Q2 (carveL r).length q2, .slice Q3 (lstL r).length q3], K.row (.slice A83 r.length c83) 34 4 r.length ((mapP lvF r r.length).flatMap eR), K.row (.slice Q3 (lstL r).length q3) 3 1 (lstL r).length ((lstL r).flatMap K.eI), K.row (.slice Q2 (carveL r).length q2) 3 1 (carveL r).length ((carveL r).flatMap K.eI), K.row (.slice Q1 (fillL r).length q1) 3 1 (fillL r).length ((fillL r).flatMap K.eI), K.blk b5 23 [.int .u8 x0, .int .u8 x1]] ∧ n ≤ 3) (fun vi => 3 - (intOf (K.nth vi 0)).toNat) ?_ ?_
  · exact ⟨0, rfl, rfl, Nat.zero_le _⟩
  intro vi vr L hJ
  obtain ⟨n, rfl, rfl, hn3⟩ := hJ
  try dsimp only [setd, setn, ev, nth, over, cl, eI, eP, eT, setM, setF, List.map, List.append, List.drop, List.take]
  refine K.seq ?_
  refine sr ?_
  iterate 2 refine qm ?_
  refine qp (K.len_sl sl_35 rfl) ?_
  refine qp (K.lss rfl rfl) ?_
  refine sn ?_
  refine K.cond rfl (fun ht101 => ?_) (fun ht101 => ?_)
  · try replace ht101 := of_decide_eq_true ht101
    refine K.skip ?_
    refine K.norm_then ?_
    refine K.seq ?_
    refine K.block ?_
    refine K.seq ?_
    refine sr ?_
    iterate 2 refine qm ?_
    refine K.seq_pure (K.Pure.eq (K.indexAddr_sl sl_35 rfl rfl (by omega) (by omega)) (show _ = Value.pointer (some ⟨b97, 0 + n * 1, none⟩) from by rw [K.add_lit, Int.toNat_natCast])) rfl ?_
    try dsimp only [setd, setn, ev, nth, over, cl, eI, eP, eT, List.map, List.append, List.drop, List.take]
    try dsimp only [setd, setn, ev, nth, over, cl, eI, eP, eT, List.map, List.append, List.drop, List.take]
    refine K.seq_sil (K.load_at one_28 rfl (K.PtrL.own' ((K.m0))) (three_sl (by omega))) rfl ?_
    try dsimp only [setd, setn, ev, nth, over, cl, eI, eP, eT, List.map, List.append, List.drop, List.take]
    refine qp (K.len_sl sl_28 rfl) ?_
    refine qp (K.eql rfl rfl) ?_
    refine sn ?_
    refine K.cond rfl (fun ht109 => ?_) (fun ht109 => ?_)
    · try replace ht109 := of_decide_eq_true ht109
      refine K.exit ?_
      refine K.exit_then ?_
      refine K.exit_here ?_
      refine K.norm_then ?_
      refine K.region_lit ?_
      refine qm ?_
      refine qp (K.add_i64 rfl rfl (by omega)) ?_
      refine qa ?_
      refine K.seq_nil ?_
      exact K.round_endW (L'' := [K.blk b97 28 [.slice Q1 (fillL r).length q1, .slice Q2 (carveL r).length q2, .slice Q3 (lstL r).length q3], K.row (.slice A83 r.length c83) 34 4 r.length ((mapP lvF r r.length).flatMap eR), K.row (.slice Q3 (lstL r).length q3) 3 1 (lstL r).length ((lstL r).flatMap K.eI), K.row (.slice Q2 (carveL r).length q2) 3 1 (carveL r).length ((carveL r).flatMap K.eI), K.row (.slice Q1 (fillL r).length q1) 3 1 (fillL r).length ((fillL r).flatMap K.eI), K.blk b5 23 [.int .u8 x0, .int .u8 x1]]) [.int .i64 ((n : Int) + 1)] ⟨n + 1, rfl, rfl, by omega⟩ (by simp [K.nth, intOf]; omega) (List.Sublist.refl _) (by kernel_rfl)
    try replace ht109 := of_decide_eq_false ht109
    have hRt : Runs r (three n (fillL r) (carveL r) (lstL r)) := three_runs hc (by omega)
    have hxl := hRt.l
    have hgc := run_case (kind := (1 + z % 3)) hc h8 hRt (by omega)
    refine K.skip ?_
    refine K.norm_then ?_
    refine sr ?_
    refine qm ?_
    refine K.seq_pure (K.Pure.eq (K.conv_int ik_5 ik_3 rfl) (show _ = Value.int .i64 z from by rw [IntWalk.i64_in _ (by omega)])) rfl ?_
    try dsimp only [setd, setn, ev, nth, over, cl, eI, eP, eT, List.map, List.append, List.drop, List.take]
    refine qp (K.rem_i64 rfl rfl (by omega) (by omega)) ?_
    refine qp (K.add_i64 rfl rfl (by omega)) ?_
    iterate 2 refine qm ?_
    refine K.seq_pure (K.Pure.eq (K.indexAddr_sl sl_35 rfl rfl (by omega) (by omega)) (show _ = Value.pointer (some ⟨b97, 0 + n * 1, none⟩) from by rw [K.add_lit, Int.toNat_natCast])) rfl ?_
    try dsimp only [setd, setn, ev, nth, over, cl, eI, eP, eT, List.map, List.append, List.drop, List.take]
    try dsimp only [setd, setn, ev, nth, over, cl, eI, eP, eT, List.map, List.append, List.drop, List.take]
    refine K.seq_sil (K.load_at one_28 rfl (K.PtrL.own' ((K.m0))) (three_sl (by omega))) rfl ?_
    try dsimp only [setd, setn, ev, nth, over, cl, eI, eP, eT, List.map, List.append, List.drop, List.take]
    refine K.seq_pure (K.build (bl38 _ _ _ _)) rfl ?_
    try dsimp only [setd, setn, ev, nth, over, cl, eI, eP, eT, List.map, List.append, List.drop, List.take]
    refine K.seq_new (K.alloc zr_38) rfl ?_
    intro b20
    try dsimp only [setd, setn, ev, nth, over, cl, eI, eP, eT, List.map, List.append, List.drop, List.take]
    refine K.seq_st (K.store_all sz_38 rfl rfl rfl rfl (K.rp0)) rfl ?_
    try dsimp only [setd, setn, ev, nth, over, cl, eI, eP, eT, List.map, List.append, List.drop, List.take]
    refine sn ?_
    refine sr ?_
    refine K.seq_sil (K.loadA_own ag_38 rfl (K.m0) rfl) rfl ?_
    try dsimp only [setd, setn, ev, nth, over, cl, eI, eP, eT, List.map, List.append, List.drop, List.take]
    refine K.seq_call (K.call_g cal_10 (fun F w hF hw => (by have hX := (rd_three (n := n) (K.Rd.own (e := K.eI) (xs := (fillL r)) hw (hF _ (K.m5)) hq1 (fun _ => rfl) (by decide)) (K.Rd.own (e := K.eI) (xs := (carveL r)) hw (hF _ (K.m4)) hq2 (fun _ => rfl) (by decide)) (K.Rd.own (e := K.eI) (xs := (lstL r)) hw (hF _ (K.m3)) hq3 (fun _ => rfl) (by decide))); have hg := Sc.c16 (kind := (1 + z % 3)) (base := 0) (most := 100000) (B := none) (d := 0) (rs := []) (c := three n q1 q2 q3) hX K.Rd.nil (by omega) (Nat.zero_le _); rw [hgc.chk] at hg; exact hg))) rfl ?_
    try dsimp only [setd, setn, ev, nth, over, cl, eI, eP, eT, List.map, List.append, List.drop, List.take]
    refine qm ?_
    refine qx ?_
    refine qx ?_
    refine qx ?_
    iterate 3 refine qa ?_
    refine sn ?_
    refine K.seq ?_
    refine K.draw_L [] Tryz_mixed ?_
    refine K.d_mem 0 rfl (K.loadA_own ag_38 rfl (K.m0) rfl) (fun _ h => h) (by kernel_rfl) (by kernel_rfl) rfl ?_
    try dsimp only [setd, setn, ev, nth, over, cl, eI, eP, eT, List.map, List.append, List.drop, List.take]
    refine K.d_mem 1 rfl (K.loadA_own ag_23 rfl (K.m6) rfl) (fun _ h => h) (by kernel_rfl) (by kernel_rfl) rfl ?_
    try dsimp only [setd, setn, ev, nth, over, cl, eI, eP, eT, List.map, List.append, List.drop, List.take]
    refine K.d_loud 2 rfl (K.call_f cal_12 (fun F w hF hw => Sc.c40 hx0 hx1 w)) (fun _ h => h) (by kernel_rfl) rfl ?_
    rintro ⟨u, v⟩ huv
    try dsimp only [setd, setn, ev, nth, over, cl, eI, eP, eT, List.map, List.append, List.drop, List.take]
    refine K.d_loud 3 rfl (K.call_f cal_11 (fun F w hF hw => (by have hX := (rd_three (n := n) (K.Rd.own (e := K.eI) (xs := (fillL r)) hw (hF _ (K.m5)) hq1 (fun _ => rfl) (by decide)) (K.Rd.own (e := K.eI) (xs := (carveL r)) hw (hF _ (K.m4)) hq2 (fun _ => rfl) (by decide)) (K.Rd.own (e := K.eI) (xs := (lstL r)) hw (hF _ (K.m3)) hq3 (fun _ => rfl) (by decide))); have hg := Sc.c17 (kind := (1 + z % 3)) (base := 0) (most := 100000) (B := none) (d := 0) (rs := []) (c := three n q1 q2 q3) (u := u) (v := v) hX K.Rd.nil (by omega) (Nat.zero_le _); rw [show Sc.cutsR (1 + z % 3) 0 100000 (three n (fillL r) (carveL r) (lstL r)) [] u v = (Sc.cuts (1 + z % 3) 0 u v (three n (fillL r) (carveL r) (lstL r))) from by unfold Sc.cutsR; rw [Sc.askE_good hgc, if_pos huv], Sc.askE_good hgc, huv] at hg; exact hg))) (fun _ h => h) (by kernel_rfl) rfl ?_
    rintro ⟨Q4, q4⟩ hq4
    try dsimp only [setd, setn, ev, nth, over, cl, eI, eP, eT, List.map, List.append, List.drop, List.take]
    refine K.d_pure 4 rfl (K.move) (by kernel_rfl) rfl ?_
    refine zn ?_
    refine K.d_pure 5 rfl (K.extract rfl rfl) (by kernel_rfl) rfl ?_
    refine zn ?_
    refine K.d_pure 6 rfl (K.extract rfl rfl) (by kernel_rfl) rfl ?_
    refine zn ?_
    refine K.d_pure 7 rfl (K.assign) (by kernel_rfl) rfl ?_
    refine zn ?_
    refine K.d_pure 8 rfl (K.assign) (by kernel_rfl) rfl ?_
    refine zn ?_
    refine K.d_done (by kernel_rfl) ?_
    refine K.norm_then ?_
    refine K.seq ?_
    refine K.seq ?_
    have hcl : (Sc.cuts (1 + z % 3) 0 u v (three n (fillL r) (carveL r) (lstL r))).length = r.length := by rw [Sc.cuts_len]; exact hRt.l
    refine K.region_lit ?_
    iterate 2 refine qm ?_
    refine K.seq_pure (K.Pure.eq (K.indexAddr_sl sl_35 rfl rfl (by omega) (by omega)) (show _ = Value.pointer (some ⟨b97, 0 + n * 1, none⟩) from by rw [K.add_lit, Int.toNat_natCast])) rfl ?_
    try dsimp only [setd, setn, ev, nth, over, cl, eI, eP, eT, List.map, List.append, List.drop, List.take]
    try dsimp only [setd, setn, ev, nth, over, cl, eI, eP, eT, List.map, List.append, List.drop, List.take]
    refine K.seq_sil (K.load_at one_28 rfl (K.PtrL.own' ((K.m2))) (three_sl (by omega))) rfl ?_
    try dsimp only [setd, setn, ev, nth, over, cl, eI, eP, eT, List.map, List.append, List.drop, List.take]
    refine qp (K.len_sl sl_28 rfl) ?_
    refine qm ?_
    refine qp (K.len_sl sl_22 rfl) ?_
    refine qp (K.Pure.eq (K.neq rfl rfl) (show _ = Value.bool false from congrArg Value.bool (decide_eq_false (by omega)))) ?_
    iterate 2 refine qm ?_
    refine qp (K.Pure.eq (K.neq rfl rfl) (show _ = Value.bool false from congrArg Value.bool (decide_eq_false (fun h => h rfl)))) ?_
    refine qp (K.pick_f rfl) ?_
    iterate 2 refine qm ?_
    refine qp (K.Pure.eq (K.neq rfl rfl) (show _ = Value.bool false from congrArg Value.bool (decide_eq_false (fun h => h rfl)))) ?_
    refine qp (K.pick_f rfl) ?_
    iterate 2 refine qm ?_
    refine qp (K.len_sl sl_28 rfl) ?_
    refine qm ?_
    refine qp (K.len_sl sl_22 rfl) ?_
    refine qp (K.Pure.eq (K.neq rfl rfl) (show _ = Value.bool false from congrArg Value.bool (decide_eq_false (by omega)))) ?_
    refine qp (K.pick_f rfl) ?_
    refine sn ?_
    refine K.cond_false rfl ?_
    refine K.skip ?_
    refine K.norm_then ?_
    refine sr ?_
    refine qa ?_
    refine sn ?_
    refine K.seq ?_
    refine sr ?_
    refine qa ?_
    refine sn ?_
    refine K.block ?_
    refine K.loopW [26, 27] [155, 156, 157, 158, 159, 160, 161, 162, 163, 164, 165, 166, 167, 168] (fun vi L => ∃ m : Nat, vi = [.bool (farB (Sc.cuts (1 + z % 3) 0 u v (three n (fillL r) (carveL r) (lstL r))) m), .int .i64 (m : Int)] ∧ L = [K.row (.slice Q4 (Sc.cuts (1 + z % 3) 0 u v (three n (fillL r) (carveL r) (lstL r))).length q4) 3 1 (Sc.cuts (1 + z % 3) 0 u v (three n (fillL r) (carveL r) (lstL r))).length ((Sc.cuts (1 + z % 3) 0 u v (three n (fillL r) (carveL r) (lstL r))).flatMap K.eI), K.blk b20 38 [.int .i64 (1 + z % 3), .int .i64 0, .int .i64 100000, .slice (three n Q1 Q2 Q3) (three n (fillL r) (carveL r) (lstL r)).length (three n q1 q2 q3), .slice none 0 0], K.blk b97 28 [.slice Q1 (fillL r).length q1, .slice Q2 (carveL r).length q2, .slice Q3 (lstL r).length q3], K.row (.slice A83 r.length c83) 34 4 r.length ((mapP lvF r r.length).flatMap eR), K.row (.slice Q3 (lstL r).length q3) 3 1 (lstL r).length ((lstL r).flatMap K.eI), K.row (.slice Q2 (carveL r).length q2) 3 1 (carveL r).length ((carveL r).flatMap K.eI), K.row (.slice Q1 (fillL r).length q1) 3 1 (fillL r).length ((fillL r).flatMap K.eI), K.blk b5 23 [.int .u8 x0, .int .u8 x1]] ∧ m ≤ (Sc.cuts (1 + z % 3) 0 u v (three n (fillL r) (carveL r) (lstL r))).length) (fun vi => (Sc.cuts (1 + z % 3) 0 u v (three n (fillL r) (carveL r) (lstL r))).length - (intOf (K.nth vi 1)).toNat) ?_ ?_
    · exact ⟨0, rfl, rfl, Nat.zero_le _⟩
    intro vi vr L hJ
    obtain ⟨m, rfl, rfl, hmn⟩ := hJ
    try dsimp only [setd, setn, ev, nth, over, cl, eI, eP, eT, setM, setF, List.map, List.append, List.drop, List.take]
    refine K.seq ?_
    refine sr ?_
    iterate 2 refine qm ?_
    refine qp (K.len_sl sl_28 rfl) ?_
    refine qp (K.lss rfl rfl) ?_
    refine sn ?_
    refine K.cond rfl (fun ht158 => ?_) (fun ht158 => ?_)
    · try replace ht158 := of_decide_eq_true ht158
      have hm : m < (Sc.cuts (1 + z % 3) 0 u v (three n (fillL r) (carveL r) (lstL r))).length := by omega
      refine K.skip ?_
      refine K.norm_then ?_
      refine K.seq ?_
      refine K.block ?_
      refine K.region_lit ?_
      iterate 2 refine qm ?_
      refine K.split 162 rfl (fun hg162 => ?_) (fun hg162 => ?_)
      · try replace hg162 := of_decide_eq_true hg162
        refine K.seq_skip ?_ ?_
        · rfl
        try dsimp only [setd, setn, ev, nth, over, cl, eI, eP, eT, List.map, List.append, List.drop, List.take]
        refine K.seq_skip ?_ ?_
        · rfl
        try dsimp only [setd, setn, ev, nth, over, cl, eI, eP, eT, List.map, List.append, List.drop, List.take]
        refine K.seq_skip ?_ ?_
        · rfl
        try dsimp only [setd, setn, ev, nth, over, cl, eI, eP, eT, List.map, List.append, List.drop, List.take]
        refine K.seq_skip ?_ ?_
        · rfl
        try dsimp only [setd, setn, ev, nth, over, cl, eI, eP, eT, List.map, List.append, List.drop, List.take]
        refine K.seq_skip ?_ ?_
        · rfl
        try dsimp only [setd, setn, ev, nth, over, cl, eI, eP, eT, List.map, List.append, List.drop, List.take]
        refine qp (K.pick_t rfl) ?_
        refine qa ?_
        refine K.seq_nil ?_
        refine K.norm_block ?_
        refine K.norm_then ?_
        refine K.region_lit ?_
        refine qm ?_
        refine qp (K.add_i64 rfl rfl (by omega)) ?_
        refine qa ?_
        refine K.seq_nil ?_
        have ef : true = farB (Sc.cuts (1 + z % 3) 0 u v (three n (fillL r) (carveL r) (lstL r))) (m + 1) := by rw [far_s, hg162]; simp
        exact K.round_endW (L'' := [K.row (.slice Q4 (Sc.cuts (1 + z % 3) 0 u v (three n (fillL r) (carveL r) (lstL r))).length q4) 3 1 (Sc.cuts (1 + z % 3) 0 u v (three n (fillL r) (carveL r) (lstL r))).length ((Sc.cuts (1 + z % 3) 0 u v (three n (fillL r) (carveL r) (lstL r))).flatMap K.eI), K.blk b20 38 [.int .i64 (1 + z % 3), .int .i64 0, .int .i64 100000, .slice (three n Q1 Q2 Q3) (three n (fillL r) (carveL r) (lstL r)).length (three n q1 q2 q3), .slice none 0 0], K.blk b97 28 [.slice Q1 (fillL r).length q1, .slice Q2 (carveL r).length q2, .slice Q3 (lstL r).length q3], K.row (.slice A83 r.length c83) 34 4 r.length ((mapP lvF r r.length).flatMap eR), K.row (.slice Q3 (lstL r).length q3) 3 1 (lstL r).length ((lstL r).flatMap K.eI), K.row (.slice Q2 (carveL r).length q2) 3 1 (carveL r).length ((carveL r).flatMap K.eI), K.row (.slice Q1 (fillL r).length q1) 3 1 (fillL r).length ((fillL r).flatMap K.eI), K.blk b5 23 [.int .u8 x0, .int .u8 x1]]) [.bool true, .int .i64 ((m : Int) + 1)] ⟨m + 1, by rw [← ef]; rfl, rfl, by omega⟩ (by simp [K.nth, intOf]; omega) (List.Sublist.refl _) (by kernel_rfl)
      try replace hg162 := of_decide_eq_false hg162
      iterate 2 refine qm ?_
      refine K.seq_ix (M := [K.row (.slice Q4 (Sc.cuts (1 + z % 3) 0 u v (three n (fillL r) (carveL r) (lstL r))).length q4) 3 1 (Sc.cuts (1 + z % 3) 0 u v (three n (fillL r) (carveL r) (lstL r))).length ((Sc.cuts (1 + z % 3) 0 u v (three n (fillL r) (carveL r) (lstL r))).flatMap K.eI)]) _ (K.Sl.own (w0 := w) (t := 3) (c := q4) (e := K.eI) hq4 (fun _ => rfl)) sl_28 rfl rfl rfl (by omega) rfl ?_
      intro p165 hp165
      try dsimp only [setd, setn, ev, nth, over, cl, eI, eP, eT, List.map, List.append, List.drop, List.take]
      refine K.seq_sil (K.load1 one_3 rfl (hp165.at1 (K.m0))) rfl ?_
      try dsimp only [setd, setn, ev, nth, over, cl, eI, eP, eT, List.map, List.append, List.drop, List.take]
      refine qp (K.gtr rfl rfl) ?_
      refine qp (K.pick_f rfl) ?_
      refine qa ?_
      refine K.seq_nil ?_
      refine K.norm_block ?_
      refine K.norm_then ?_
      refine K.region_lit ?_
      refine qm ?_
      refine qp (K.add_i64 rfl rfl (by omega)) ?_
      refine qa ?_
      refine K.seq_nil ?_
      have ef : (decide ((Sc.cuts (1 + z % 3) 0 u v (three n (fillL r) (carveL r) (lstL r))).getD m default > 9000)) = farB (Sc.cuts (1 + z % 3) 0 u v (three n (fillL r) (carveL r) (lstL r))) (m + 1) := by rw [far_s, hg162]; simp
      exact K.round_endW (L'' := [K.row (.slice Q4 (Sc.cuts (1 + z % 3) 0 u v (three n (fillL r) (carveL r) (lstL r))).length q4) 3 1 (Sc.cuts (1 + z % 3) 0 u v (three n (fillL r) (carveL r) (lstL r))).length ((Sc.cuts (1 + z % 3) 0 u v (three n (fillL r) (carveL r) (lstL r))).flatMap K.eI), K.blk b20 38 [.int .i64 (1 + z % 3), .int .i64 0, .int .i64 100000, .slice (three n Q1 Q2 Q3) (three n (fillL r) (carveL r) (lstL r)).length (three n q1 q2 q3), .slice none 0 0], K.blk b97 28 [.slice Q1 (fillL r).length q1, .slice Q2 (carveL r).length q2, .slice Q3 (lstL r).length q3], K.row (.slice A83 r.length c83) 34 4 r.length ((mapP lvF r r.length).flatMap eR), K.row (.slice Q3 (lstL r).length q3) 3 1 (lstL r).length ((lstL r).flatMap K.eI), K.row (.slice Q2 (carveL r).length q2) 3 1 (carveL r).length ((carveL r).flatMap K.eI), K.row (.slice Q1 (fillL r).length q1) 3 1 (fillL r).length ((fillL r).flatMap K.eI), K.blk b5 23 [.int .u8 x0, .int .u8 x1]]) [.bool (decide ((Sc.cuts (1 + z % 3) 0 u v (three n (fillL r) (carveL r) (lstL r))).getD m default > 9000)), .int .i64 ((m : Int) + 1)] ⟨m + 1, by rw [← ef]; rfl, rfl, by omega⟩ (by simp [K.nth, intOf]; omega) (List.Sublist.refl _) (by kernel_rfl)
    try replace ht158 := of_decide_eq_false ht158
    have e0 : m = (Sc.cuts (1 + z % 3) 0 u v (three n (fillL r) (carveL r) (lstL r))).length := by omega
    subst e0
    refine K.exit ?_
    refine K.exit_then ?_
    refine K.exit_then ?_
    refine K.exit_here ?_
    refine K.norm_then ?_
    refine K.seq ?_
    refine sr ?_
    refine qm ?_
    refine sn ?_
    refine K.cond rfl (fun ht169 => ?_) (fun ht169 => ?_)
    · try replace ht169 := of_decide_eq_true ht169
      refine K.exit ?_
      refine K.exit_then ?_
      refine K.exit_here ?_
      refine K.norm_then ?_
      refine K.region_lit ?_
      refine qm ?_
      refine qp (K.add_i64 rfl rfl (by omega)) ?_
      refine qa ?_
      refine K.seq_nil ?_
      exact K.round_endW (L'' := [K.blk b97 28 [.slice Q1 (fillL r).length q1, .slice Q2 (carveL r).length q2, .slice Q3 (lstL r).length q3], K.row (.slice A83 r.length c83) 34 4 r.length ((mapP lvF r r.length).flatMap eR), K.row (.slice Q3 (lstL r).length q3) 3 1 (lstL r).length ((lstL r).flatMap K.eI), K.row (.slice Q2 (carveL r).length q2) 3 1 (carveL r).length ((carveL r).flatMap K.eI), K.row (.slice Q1 (fillL r).length q1) 3 1 (fillL r).length ((fillL r).flatMap K.eI), K.blk b5 23 [.int .u8 x0, .int .u8 x1]]) [.int .i64 ((n : Int) + 1)] ⟨n + 1, rfl, rfl, by omega⟩ (by simp [K.nth, intOf]; omega) (List.Sublist.cons _ (List.Sublist.cons _ (List.Sublist.refl _))) (by kernel_rfl)
    try replace ht169 := of_decide_eq_false ht169
    have hct := ct_runs (kind := (1 + z % 3)) (u := u) (v := v) hc hRt (by omega) (Sc.scE_parts huv) rfl (far_no (by simpa using ht169))
    refine K.skip ?_
    refine K.norm_then ?_
    refine sr ?_
    iterate 2 refine qm ?_
    refine K.seq_loud (K.call_f cal_14 (fun F w hF hw => (by have hX := K.Rd.own (t := 34) (c := c83) (e := eR) (xs := (lvS r)) hw (by rw [hS]; exact (hF _ (K.m3))) (by rw [hS]; exact hA83) (fun _ => rfl) (by decide); have hY := (K.Rd.own (e := K.eI) (xs := (Sc.cuts (1 + z % 3) 0 u v (three n (fillL r) (carveL r) (lstL r)))) hw (hF _ (K.m0)) hq4 (fun _ => rfl) (by decide)); have hg := cHigh (c := c83) (d := q4) hX hY (by rw [hS]; omega) (by rw [hS]; omega); rw [hS] at hg; exact hg))) rfl ?_
    rintro ⟨Q5, q5⟩ hq5
    try dsimp only [setd, setn, ev, nth, over, cl, eI, eP, eT, List.map, List.append, List.drop, List.take]
    refine K.seq_loud (K.call_f cal_13 (fun F w hF hw => (by have hX := K.Rd.own (e := eR) (xs := (wthS (lvS r) (Sc.cuts (1 + z % 3) 0 u v (three n (fillL r) (carveL r) (lstL r))))) hw (hF _ (K.m0)) hq5 (fun _ => rfl) (by decide); have hg := c16 (c := q5) hX (by rw [w_len, hS]; omega); rw [hct.2, hct.1] at hg; exact hg))) rfl ?_
    rintro ⟨Q6, q6⟩ hq6
    try dsimp only [setd, setn, ev, nth, over, cl, eI, eP, eT, List.map, List.append, List.drop, List.take]
    refine qm ?_
    refine qx ?_
    refine qx ?_
    iterate 2 refine qa ?_
    refine sn ?_
    refine sr ?_
    refine qm ?_
    refine qp (K.Pure.eq (K.neq rfl rfl) (show _ = Value.bool false from congrArg Value.bool (decide_eq_false (fun h => h rfl)))) ?_
    iterate 2 refine qm ?_
    refine qp (K.len_sl sl_28 rfl) ?_
    refine qp (K.Pure.eq (K.gtr rfl rfl) (show _ = Value.bool false from congrArg Value.bool (rfl))) ?_
    refine qp (K.pick_f rfl) ?_
    refine sn ?_
    refine K.cond_false rfl ?_
    refine K.skip ?_
    refine K.norm_block ?_
    refine K.norm_then ?_
    refine K.region_lit ?_
    refine qm ?_
    refine qp (K.add_i64 rfl rfl (by omega)) ?_
    refine qa ?_
    refine K.seq_nil ?_
    exact K.round_endW (L'' := [K.blk b97 28 [.slice Q1 (fillL r).length q1, .slice Q2 (carveL r).length q2, .slice Q3 (lstL r).length q3], K.row (.slice A83 r.length c83) 34 4 r.length ((mapP lvF r r.length).flatMap eR), K.row (.slice Q3 (lstL r).length q3) 3 1 (lstL r).length ((lstL r).flatMap K.eI), K.row (.slice Q2 (carveL r).length q2) 3 1 (carveL r).length ((carveL r).flatMap K.eI), K.row (.slice Q1 (fillL r).length q1) 3 1 (fillL r).length ((fillL r).flatMap K.eI), K.blk b5 23 [.int .u8 x0, .int .u8 x1]]) [.int .i64 ((n : Int) + 1)] ⟨n + 1, rfl, rfl, by omega⟩ (by simp [K.nth, intOf]; omega) (List.Sublist.cons _ (List.Sublist.cons _ (List.Sublist.cons _ (List.Sublist.cons _ (List.Sublist.refl _))))) (by kernel_rfl)
  try replace ht101 := of_decide_eq_false ht101
  refine K.exit ?_
  refine K.exit_then ?_
  refine K.exit_then ?_
  refine K.exit_here ?_
  refine K.norm_then ?_
  refine sr ?_
  refine K.seq_call (K.call_g cal_5 (fun F w hF hw => Sc.c26 w)) rfl ?_
  try dsimp only [setd, setn, ev, nth, over, cl, eI, eP, eT, List.map, List.append, List.drop, List.take]
  refine qm ?_
  refine K.seq_call (K.call_g cal_6 (fun F w hF hw => c25 (hT.pass hw))) rfl ?_
  try dsimp only [setd, setn, ev, nth, over, cl, eI, eP, eT, List.map, List.append, List.drop, List.take]
  refine qp (K.pick_t rfl) ?_
  refine qa ?_
  refine sn ?_
  refine K.ret ?_
  refine K.end_ret (fun w _ => K.res_tmp rfl w) ?_
  exact K.gives rfl

theorem c3 {r : List RvT} {A : Option Addr} {c : Nat} {z x0 x1 : Int} {w : World} (hR : K.Rd w A 4 eR r) (hn : r.length ≤ 17592186043904) (hT : Tab w) (hz : 0 ≤ z ∧ z ≤ 255) (hx0 : 0 ≤ x0 ∧ x0 ≤ 255) (hx1 : 0 ≤ x1 ∧ x1 ≤ 255) : Calls Tryz.prog 3 [.slice A r.length c, .int .u8 z, .agg #[.int .u8 x0, .int .u8 x1]].toArray w (K.Gives (.bool true) w) := by
  by_cases hc : (chk r).2.2 = 0
  · by_cases h8 : r.length ≤ 8
    · exact g3 hR hn hT hz hx0 hx1 hc h8
    · exact e3 hR hn hT hz hx0 hx1 (.inr (by omega))
  · exact e3 hR hn hT hz hx0 hx1 (.inl hc)

end Go.Proofs.YtekkpcpbnonkaaaGreatDoor.Rv
end
