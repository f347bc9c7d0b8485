/-
  Lemmas and walks of functions, joined and with only what the claim needs.
  Conditions stand in each theorem.
-/
import Derived.Test.YtekkpcpbnonkaaaGreatDoorProg
import Derived.Test.YtekkpcpbnonkaaaGreatDoorRows
import Derived.Below
import Derived.Laws.AppendOwn
import Derived.Laws.Rows
import Derived.Laws.Slices
import Derived.Tactics
import Derived.OrdersHeld
import Derived.KernelRfl
import Derived.WalkKit
import Derived.Deep.AppendLies
import Derived.IntWalk
import Derived.Scope
import Derived.WalkSpells
import Derived.DeepKeys
import Derived.Deep.Upon
import Derived.Laws.Small
import Derived.RangeFuncLeaves
import Derived.RangeFuncSeq
import Derived.OrdersIn
import Derived.Sort.LoopGhostIn
import Derived.TacticsIn
import Derived.RangeFuncOwn
import Derived.WideKeyMaps
import Derived.DeepKeys4
import Derived.Carry
import Derived.Laws.CopyRow
import Derived.Laws.Strings
import Derived.WalkArith
import Derived.Laws.Closers25b
import Derived.ProofKit
import Derived.OpenShut
import Derived.LaidMore
import Derived.Lay
import Derived.Stop.Joined
import Derived.ChangeOld
import Derived.SizedLaws
import Derived.Deep.Slices
import Derived.Deep.Fields
import Derived.ChangeSame
import Derived.Lib.SmallJoins
import Derived.Laws.MakeOwn
import Derived.Shelf.Sort.Plain
import Derived.Sort.OwnSortedInts
import Derived.SevenTiedAt
import Derived.Test.YtekkpcpbnonkaaaGreatDoorZd
section
set_option linter.unusedSimpArgs false
set_option linter.unusedVariables false
namespace Go.Proofs.YtekkpcpbnonkaaaGreatDoor.Rv
open Go
theorem dep_lt {r : List RvT} {i : Nat} (g : Good r) (hi : i < r.length) : dep r i < r.length := by
  have h1 : ((List.range (dep r i + 1)).map fun k => stps r k i).Nodup := by
    unfold List.Nodup
    rw [List.pairwise_map]
    refine List.Pairwise.imp_of_mem (R := fun a b => a ≠ b) ?_ (List.nodup_range (n := dep r i + 1))
    intro a b ha hb hab e
    exact hab (stps_inj g hi (by have := List.mem_range.1 ha; omega) (by have := List.mem_range.1 hb; omega) e)
  have h2 := h1.length_le_of_subset (l₂ := List.range r.length) (fun x hx => by
    obtain ⟨k, _, rfl⟩ := List.mem_map.1 hx
    exact List.mem_range.2 (stps_lt g hi k))
  rw [List.length_map, List.length_range, List.length_range] at h2
  omega
end Go.Proofs.YtekkpcpbnonkaaaGreatDoor.Rv

namespace Go.Proofs.YtekkpcpbnonkaaaGreatDoor.Rv
open Go
section
variable {r : List RvT} {t : Nat → Int} {i k : Nat} {D : List Bool}
end
end Go.Proofs.YtekkpcpbnonkaaaGreatDoor.Rv

namespace Go.Proofs.YtekkpcpbnonkaaaGreatDoor.Rv
open Go
structure Like (r s : List RvT) : Prop where
  l : s.length = r.length
  d : ∀ i, (s.getD i default).dn = (r.getD i default).dn
  n : ∀ i, (s.getD i default).nm = (r.getD i default).nm
structure Same (r s : List RvT) : Prop extends Like r s where
  s : ∀ i, (s.getD i default).ls = (r.getD i default).ls
theorem rvE_0 {r : List RvT} (h : (chk r).2.2 = 0) : (1 ≤ r.length ∧ r.length ≤ 9) ∧ (∀ i, i < r.length → rvE r i = 0) ∧ (mouS r r.length).length = 1 ∧ ∀ i, i < r.length → reaB r i = true := by
  have g := chk_good h
  have h1 := g.n
  have h2 : (K.fst (rvE r) (List.range r.length)).2 = 0 := Decidable.not_not.1 fun hn => by
    rw [chk_2 h1 hn] at h; exact hn h
  have hall : ∀ i, i < r.length → rvE r i = 0 := by
    intro i hi
    by_cases h0 : ∃ k, k < r.length ∧ rvE r k ≠ 0
    · exfalso
      have hex : ∃ k, k < r.length ∧ rvE r k ≠ 0 ∧ ∀ j, j < k → rvE r j = 0 := by
        obtain ⟨k, hk, hne⟩ := h0
        induction k using Nat.strongRecOn with
        | _ k ih =>
          by_cases hs : ∃ j, j < k ∧ rvE r j ≠ 0
          · obtain ⟨j, hj, hj2⟩ := hs
            exact ih j hj (by omega) hj2
          · exact ⟨k, hk, hne, fun j hj => Decidable.not_not.1 fun hn => hs ⟨j, hj, hn⟩⟩
      obtain ⟨k, hk, hne, hj⟩ := hex
      rw [fst_at hk hj hne] at h2
      exact hne h2
    · exact Decidable.not_not.1 fun hn => h0 ⟨i, hi, hn⟩
  refine ⟨h1, hall, ?_, fun i hi => decide_eq_true (g.r i hi)⟩
  rcases Nat.lt_or_ge (mouS r r.length).length 1 with h3 | h3
  · rw [chk_3 h1 h2 (by omega)] at h; simp at h
  · rcases Nat.lt_or_ge 1 (mouS r r.length).length with h4 | h4
    · rw [chk_4 h1 h2 h4] at h; simp at h
    · omega
section
variable {r s : List RvT} {i k : Nat}
theorem Like.stp (h : Like r s) : stp s i = stp r i := by unfold Go.Proofs.YtekkpcpbnonkaaaGreatDoor.Rv.stp; rw [h.d]
theorem Like.stps (h : Like r s) : ∀ k i, stps s k i = stps r k i
  | 0, _ => rfl
  | k + 1, i => by rw [Go.Proofs.YtekkpcpbnonkaaaGreatDoor.Rv.stps, h.stps k i, h.stp]; rfl
theorem Like.nms (h : Like r s) {b : ByteArray} : ((s.take i).any fun q => nmEq q.nm b) = ((r.take i).any fun q => nmEq q.nm b) := by
  have e : (s.take i).map (·.nm) = (r.take i).map (·.nm) := by
    apply List.ext_getElem (by simp [h.l])
    intro j h1 h2
    simp only [List.length_map, List.length_take] at h1 h2
    have := h.n j
    rw [List.getD_eq_getElem?_getD, List.getD_eq_getElem?_getD, List.getElem?_eq_getElem (by omega), List.getElem?_eq_getElem (by omega)] at this
    simpa using this
  have e2 : ∀ l : List RvT, (l.any fun q => nmEq q.nm b) = (l.map (·.nm)).any fun q => nmEq q b := fun l => by rw [List.any_map]; rfl
  rw [e2, e2, e]
theorem chk_like (h : Like r s) (hc : (chk r).2.2 = 0) (hp : ∀ i, i < r.length → ((0 ≤ (s.getD i default).ls ∧ (s.getD i default).ls ≤ 500) ∧ (0 ≤ (s.getD i default).ht ∧ (s.getD i default).ht ≤ 9000)) ∧ ((s.getD i default).dn = -1 → (s.getD i default).ls = 0)) : chk s = (0, 0, 0) := by
  obtain ⟨h1, h2, h3, h4⟩ := rvE_0 hc
  have hl := h.l
  refine chk_0 (by omega) (fst_0 fun i hi => ?_) ?_ (fun j hj => ?_)
  · rw [hl] at hi
    have h5 := rv_ok (h2 i hi)
    have h6 := pos_ok h5.2.2
    have hpi := hp i hi
    rw [rv_p (by rw [h.n]; exact h5.1) (by rw [h.n, h.nms]; exact h5.2.1)]
    refine pos_0 hpi.1 (by rw [h.d, hl]; exact h6.2.1) ?_
    rintro (h7 | ⟨h7, h8⟩)
    · exact h6.2.2 (.inl (by rw [← h.d]; exact h7))
    · exact h8 (hpi.2 h7)
  · have e : mouS s s.length = mouS r r.length := by
      unfold mouS; rw [hl]
      exact List.filter_congr fun i _ => by rw [h.d]
    rw [e]; exact h3
  · have := h4 j (by omega)
    unfold reaB at this ⊢
    rw [hl, h.stps, h.d]; exact this
theorem Like.dep (h : Like r s) : dep s i = dep r i := by
  have e : (fun k => decide ((s.getD (Go.Proofs.YtekkpcpbnonkaaaGreatDoor.Rv.stps s k i) default).dn = -1)) = fun k => decide ((r.getD (Go.Proofs.YtekkpcpbnonkaaaGreatDoor.Rv.stps r k i) default).dn = -1) := by
    funext k; rw [h.stps, h.d]
  unfold Go.Proofs.YtekkpcpbnonkaaaGreatDoor.Rv.dep
  rw [h.l, e]
theorem Like.bl (h : Like r s) : bl s i k ↔ bl r i k := by
  unfold Go.Proofs.YtekkpcpbnonkaaaGreatDoor.Rv.bl
  constructor
  · rintro ⟨j, e⟩; exact ⟨j, by rw [← h.stps]; exact e⟩
  · rintro ⟨j, e⟩; exact ⟨j, by rw [h.stps]; exact e⟩
theorem Like.blB (h : Like r s) : blB s i k = blB r i k := by
  have e : (fun j => Go.Proofs.YtekkpcpbnonkaaaGreatDoor.Rv.stps s j i == k) = fun j => Go.Proofs.YtekkpcpbnonkaaaGreatDoor.Rv.stps r j i == k := by
    funext j; rw [h.stps]
  unfold Go.Proofs.YtekkpcpbnonkaaaGreatDoor.Rv.blB
  rw [h.l, e]
theorem Same.DF (h : Same r s) : ∀ f i, DF s f i = DF r f i
  | 0, _ => rfl
  | f + 1, i => by rw [Go.Proofs.YtekkpcpbnonkaaaGreatDoor.Rv.DF, Go.Proofs.YtekkpcpbnonkaaaGreatDoor.Rv.DF, h.d, h.s, h.DF f]
theorem Same.DM (h : Same r s) : DM s i = DM r i := by unfold Go.Proofs.YtekkpcpbnonkaaaGreatDoor.Rv.DM; rw [h.l, h.DF]
theorem Same.drp (h : Same r s) : drp s i k = drp r i k := by unfold Go.Proofs.YtekkpcpbnonkaaaGreatDoor.Rv.drp; rw [h.blB, h.DM, h.DM]
theorem Same.badB (h : Same r s) {l : List Int} : badB s l i = badB r l i := by unfold Go.Proofs.YtekkpcpbnonkaaaGreatDoor.Rv.badB; rw [h.d, h.s]
theorem Same.badS (h : Same r s) {l : List Int} : badS s l = badS r l := by
  unfold Go.Proofs.YtekkpcpbnonkaaaGreatDoor.Rv.badS; rw [h.l]; exact selN_congr fun i _ => h.badB
end
def wthP (r : List RvT) (l : List Int) (k : Nat) : List RvT := (List.range r.length).map fun i => if i < k then { r.getD i default with ht := l.getD i default } else r.getD i default
def wthS (r : List RvT) (l : List Int) : List RvT := wthP r l r.length
section
variable {r : List RvT} {l : List Int} {i k : Nat}
theorem wp_len : (wthP r l k).length = r.length := by simp [wthP]
theorem wp_at (h : i < r.length) : (wthP r l k).getD i default = if i < k then { r.getD i default with ht := l.getD i default } else r.getD i default := by
  unfold wthP; rw [List.getD_eq_getElem?_getD, List.getElem?_map, List.getElem?_range h]; rfl
theorem wp_0 : wthP r l 0 = r := by
  apply List.ext_getElem?
  intro i
  rcases Nat.lt_or_ge i r.length with h | h
  · have e := wp_at (r := r) (l := l) (k := 0) h
    rw [if_neg (Nat.not_lt_zero i), List.getD_eq_getElem?_getD, List.getD_eq_getElem?_getD, List.getElem?_eq_getElem h, List.getElem?_eq_getElem (by rw [wp_len]; exact h)] at e
    rw [List.getElem?_eq_getElem h, List.getElem?_eq_getElem (by rw [wp_len]; exact h)]
    exact congrArg some e
  · rw [List.getElem?_eq_none h, List.getElem?_eq_none (by rw [wp_len]; exact h)]
theorem set_at {E : Type} [Inhabited E] {xs : List E} {x : E} {i j : Nat} (hi : i < xs.length) : (xs.set i x).getD j default = if i = j then x else xs.getD j default := by
  rw [List.getD_eq_getElem?_getD, List.getElem?_set]
  by_cases e : i = j
  · subst e; rw [if_pos rfl, if_pos rfl, if_pos hi]; rfl
  · rw [if_neg e, if_neg e, ← List.getD_eq_getElem?_getD]
theorem list_extE {E : Type} [Inhabited E] {a b : List E} (hl : a.length = b.length) (h : ∀ j, j < a.length → a.getD j default = b.getD j default) : a = b := by
  apply List.ext_getElem hl
  intro i h1 h2
  have := h i h1
  rwa [List.getD_eq_getElem?_getD, List.getD_eq_getElem?_getD, List.getElem?_eq_getElem h1, List.getElem?_eq_getElem h2] at this
theorem wp_set (h : k < r.length) : (wthP r l k).set k { (wthP r l k).getD k default with ht := l.getD k default } = wthP r l (k + 1) := by
  refine list_extE (by rw [List.length_set, wp_len, wp_len]) (fun j hj => ?_)
  rw [List.length_set, wp_len] at hj
  rw [set_at (by rw [wp_len]; exact h), wp_at h, wp_at hj, wp_at hj, if_neg (Nat.lt_irrefl k)]
  by_cases e : k = j
  · subst e; rw [if_pos rfl, if_pos (Nat.lt_succ_self k)]
  · rw [if_neg e]
    by_cases h1 : j < k
    · rw [if_pos h1, if_pos (by omega)]
    · rw [if_neg h1, if_neg (by omega)]
theorem w_len : (wthS r l).length = r.length := wp_len
theorem w_at (h : i < r.length) : (wthS r l).getD i default = { r.getD i default with ht := l.getD i default } := by unfold wthS; rw [wp_at h, if_pos h]
theorem w_out (h : ¬ i < r.length) : (wthS r l).getD i default = r.getD i default := by
  rw [List.getD_eq_getElem?_getD, List.getD_eq_getElem?_getD, List.getElem?_eq_none (by rw [w_len]; omega), List.getElem?_eq_none (by omega)]
theorem w_same : Same r (wthS r l) := by
  refine ⟨⟨w_len, fun i => ?_, fun i => ?_⟩, fun i => ?_⟩
  all_goals
    by_cases h : i < r.length
    · rw [w_at h]
    · rw [w_out h]
theorem w_own (h : l.length = r.length) : ownS (wthS r l) = l := by
  refine list_ext (by rw [own_len, w_len, h]) (fun j hj => ?_)
  rw [own_len, w_len] at hj
  rw [own_at (by rw [w_len]; exact hj), w_at hj]
theorem w_chk (hc : (chk r).2.2 = 0) (hl : ∀ i, i < r.length → 0 ≤ l.getD i default ∧ l.getD i default ≤ 9000) : chk (wthS r l) = (0, 0, 0) := by
  have g := chk_good hc
  refine chk_like (w_same (l := l)).toLike hc (fun i hi => ?_)
  have := g.p i hi
  rw [w_at hi]
  exact ⟨⟨this.1.1, hl i hi⟩, this.2.2⟩
theorem eR_len (p : RvT) : (eR p).length = 4 := rfl
theorem oneR (ps : List RvT) : (ps.flatMap eR).all Value.oneCell' = true := by
  induction ps with
  | nil => rfl
  | cons p ps ih => rw [List.flatMap_cons, List.all_append, ih]; rfl
end
end Go.Proofs.YtekkpcpbnonkaaaGreatDoor.Rv

namespace Go.Proofs.YtekkpcpbnonkaaaGreatDoor.Rv
open Go
section
variable {r : List RvT} {h : List Int} {i k a : Nat}
theorem fillE_cases (hc : (chk r).2.2 = 0) : fillE r = 0 ∨ fillE r = 9 := by
  unfold fillE; rw [if_neg (by omega)]; split <;> simp
theorem carveE_cases (hc : (chk r).2.2 = 0) : carveE r = 0 ∨ carveE r = 9 := by
  unfold carveE; rw [if_neg (by omega)]; split <;> simp
theorem fill_ok (he : fillE r = 0) : fillL r = fillS r (ownS r) ∧ Runs r (fillL r) := by
  have hl : fillL r = fillS r (ownS r) := by unfold fillL; rw [if_pos he]
  refine ⟨hl, ?_⟩
  rw [hl]
  unfold fillE at he
  split at he
  · rename_i h; exact absurd he h
  · split at he
    · rename_i h; exact runs_iff.1 h
    · omega
theorem carve_ok (he : carveE r = 0) : carveL r = carveS r (ownS r) ∧ Runs r (carveL r) := by
  have hl : carveL r = carveS r (ownS r) := by unfold carveL; rw [if_pos he]
  refine ⟨hl, ?_⟩
  rw [hl]
  unfold carveE at he
  split at he
  · rename_i h; exact absurd he h
  · split at he
    · rename_i h; exact runs_iff.1 h
    · omega
end
end Go.Proofs.YtekkpcpbnonkaaaGreatDoor.Rv
end
section
set_option linter.unusedSimpArgs false
set_option linter.unusedVariables false
namespace Go.Proofs.YtekkpcpbnonkaaaGreatDoor.Rv
open Go
def sg (f : Nat → Int) : Nat → Int
  | 0 => 0
  | k + 1 => sg f k + f k
section
variable {f h : Nat → Int} {n m : Nat}
theorem sg_congr : ∀ {n : Nat}, (∀ i, i < n → f i = h i) → sg f n = sg h n
  | 0, _ => rfl
  | n + 1, e => by rw [sg, sg, sg_congr (n := n) (fun i hi => e i (by omega)), e n (by omega)]
theorem sg_le : ∀ {n : Nat}, (∀ i, i < n → f i ≤ h i) → sg f n ≤ sg h n
  | 0, _ => Int.le_refl _
  | n + 1, e => by
    have := sg_le (n := n) (fun i hi => e i (by omega))
    have := e n (by omega)
    rw [sg, sg]; omega
theorem sg_lt {i : Nat} : ∀ {n : Nat}, i < n → (∀ i, i < n → f i ≤ h i) → f i < h i → sg f n < sg h n
  | 0, hi, _, _ => absurd hi (Nat.not_lt_zero _)
  | n + 1, hi, e, e2 => by
    have h1 := e n (by omega)
    rw [sg, sg]
    rcases Nat.lt_or_ge i n with h2 | h2
    · have := sg_lt (n := n) h2 (fun i hi => e i (by omega)) e2; omega
    · have h3 : i = n := by omega
      subst h3
      have := sg_le (n := i) (fun i hi => e i (by omega)); omega
theorem sg_add : ∀ n, sg (fun i => f i + h i) n = sg f n + sg h n
  | 0 => rfl
  | n + 1 => by rw [sg, sg, sg, sg_add n]; omega
theorem sg_0 : ∀ {n : Nat}, (∀ i, i < n → f i = 0) → sg f n = 0
  | 0, _ => rfl
  | n + 1, e => by rw [sg, sg_0 (n := n) (fun i hi => e i (by omega)), e n (by omega)]; rfl
theorem sg_bd {b : Int} : ∀ {n : Nat}, (∀ i, i < n → f i ≤ b) → sg f n ≤ b * (n : Int)
  | 0, _ => by simp [sg]
  | n + 1, e => by
    have := sg_bd (n := n) (fun i hi => e i (by omega))
    have := e n (by omega)
    have e2 : b * ((n + 1 : Nat) : Int) = b * (n : Int) + b := by push_cast; rw [Int.mul_add, Int.mul_one]
    rw [sg, e2]; omega
theorem sg_ge0 : ∀ {n : Nat}, (∀ i, i < n → 0 ≤ f i) → 0 ≤ sg f n
  | 0, _ => Int.le_refl _
  | n + 1, e => by
    have := sg_ge0 (n := n) (fun i hi => e i (by omega))
    have := e n (by omega)
    rw [sg]; omega
theorem sg_term {i : Nat} : ∀ {n : Nat}, i < n → (∀ i, i < n → 0 ≤ f i) → f i ≤ sg f n
  | 0, hi, _ => absurd hi (Nat.not_lt_zero _)
  | n + 1, hi, e => by
    have h1 := e n (by omega)
    rw [sg]
    rcases Nat.lt_or_ge i n with h2 | h2
    · have := sg_term (n := n) h2 (fun i hi => e i (by omega)); omega
    · have h3 : i = n := by omega
      subst h3
      have := sg_ge0 (n := i) (fun i hi => e i (by omega)); omega
theorem sg_one {p : Nat → Prop} [DecidablePred p] {c : Int} {k : Nat} : ∀ {n : Nat}, k < n → p k → (∀ i, i < n → p i → i = k) → sg (fun i => if p i then c else 0) n = c
  | 0, hi, _, _ => absurd hi (Nat.not_lt_zero _)
  | n + 1, hi, e, e2 => by
    rw [sg]
    rcases Nat.lt_or_ge k n with h2 | h2
    · rw [sg_one (n := n) h2 e (fun i hi => e2 i (by omega)), if_neg (fun h => by have := e2 n (by omega) h; omega)]; omega
    · have h3 : k = n := by omega
      subst h3
      rw [sg_0 (fun i hi => if_neg (fun h => by have := e2 i (by omega) h; omega)), if_pos e]; omega
theorem sg_comm {F : Nat → Nat → Int} : ∀ m, sg (fun k => sg (F k) n) m = sg (fun i => sg (fun k => F k i) m) n
  | 0 => (sg_0 (fun _ _ => rfl)).symm
  | m + 1 => by rw [sg, sg_comm m, ← sg_add]; exact sg_congr (fun i _ => rfl)
end
structure Lv (r : List RvT) (x : Nat → Int) : Prop where
  b : ∀ i, i < r.length → 0 ≤ x i + DM r i ∧ x i + DM r i ≤ 9000
  d : ∀ i, i < r.length → (r.getD i default).dn ≠ -1 → x (r.getD i default).dn.toNat ≤ x i
def cstF (r : List RvT) (x : Nat → Int) (n : Nat) : Int := sg (fun i => ownC r i (x i)) n
def cstV (r : List RvT) (x : Nat → Int) : Int := cstF r x r.length
def chgF (r : List RvT) (h : List Int) : Nat → Int
  | 0 => 0
  | k + 1 => chgF r h k + max (h.getD k default - (r.getD k default).ht) ((r.getD k default).ht - h.getD k default)
def chgV (r : List RvT) (h : List Int) : Int := chgF r h r.length
section
variable {r : List RvT} {x : Nat → Int} {i k a f : Nat} {h lv fx : List Int} {v : Int}
theorem lv_chg (e : ∀ i, i < r.length → h.getD i default = x i + DM r i) : ∀ n, n ≤ r.length → chgF r h n = cstF r x n
  | 0, _ => rfl
  | n + 1, hn => by
    have e1 := lv_chg e n (by omega)
    have e2 := e n (by omega)
    unfold chgF
    rw [e1, e2]; rfl
theorem lv_of (g : Good r) (R : Runs r h) : Lv r (fun i => h.getD i default - DM r i) := by
  refine ⟨fun i hi => ?_, fun i hi hd => ?_⟩
  · have := R.b i hi
    show 0 ≤ h.getD i default - DM r i + DM r i ∧ h.getD i default - DM r i + DM r i ≤ 9000
    omega
  · have h1 := R.d i hi hd
    have h2 := DM_d g hi hd
    show h.getD _ default - DM r _ ≤ h.getD i default - DM r i
    omega
theorem lv_runs (g : Good r) (L : Lv r x) (hl : h.length = r.length) (e : ∀ i, i < r.length → h.getD i default = x i + DM r i) : Runs r h := by
  refine ⟨hl, fun i hi => by rw [e i hi]; exact L.b i hi, fun i hi hd => ?_⟩
  have h1 := L.d i hi hd
  have h2 := DM_d g hi hd
  rw [e i hi, e _ (dn_lt g hi hd)]; omega
theorem lv_ge0 (g : Good r) (L : Lv r x) : ∀ i, i < r.length → 0 ≤ x i := by
  refine down_ind g (fun i hi hm => ?_) (fun i hi hm hlt ih => ?_)
  · have := L.b i hi; rw [DM_m hm] at this; omega
  · have := L.d i hi hm; omega
theorem levU_in : ∀ {n : Nat}, i < n → ∀ v ∈ lev3 r i, v ∈ levU r n
  | 0, hi, _, _ => absurd hi (Nat.not_lt_zero _)
  | n + 1, hi, v, hv => by
    unfold levU
    rcases Nat.lt_or_ge i n with h1 | h1
    · exact List.mem_append_left _ (levU_in h1 v hv)
    · have : i = n := by omega
      subst this; exact List.mem_append_right _ hv
theorem levS_in (hi : i < r.length) (hv : v ∈ lev3 r i) : v ∈ levS r := sort_perm.mem_iff.2 (levU_in hi v hv)
def upX (x : Nat → Int) (v : Int) (i : Nat) : Int := if x i = v then v + 1 else x i
def dnX (x : Nat → Int) (v : Int) (i : Nat) : Int := if x i = v then v - 1 else x i
theorem up_lv (g : Good r) (L : Lv r x) (hv : v ∉ levS r) : Lv r (upX x v) := by
  refine ⟨fun i hi => ?_, fun i hi hd => ?_⟩
  · have := L.b i hi
    unfold upX
    split
    · rename_i e
      have : v ≠ 9000 - DM r i := fun e2 => hv (levS_in hi (by rw [e2]; simp [lev3]))
      omega
    · exact this
  · have := L.d i hi hd
    unfold upX
    split <;> split <;> omega
theorem dn_lv (g : Good r) (L : Lv r x) (hv : v ∉ levS r) : Lv r (dnX x v) := by
  refine ⟨fun i hi => ?_, fun i hi hd => ?_⟩
  · have h1 := L.b i hi
    have h2 := lv_ge0 g L i hi
    have h3 := DM_le g hi
    unfold dnX
    split
    · rename_i e
      have : v ≠ 0 := fun e2 => hv (levS_in hi (by rw [e2]; simp [lev3]))
      omega
    · exact h1
  · have := L.d i hi hd
    unfold dnX
    split <;> split <;> omega
theorem both_cst (hv : v ∉ levS r) : cstV r (upX x v) + cstV r (dnX x v) = cstV r x + cstV r x := by
  unfold cstV cstF
  rw [← sg_add, ← sg_add]
  refine sg_congr fun i hi => ?_
  have : v ≠ (r.getD i default).ht - DM r i := fun e2 => hv (levS_in hi (by rw [e2]; simp [lev3]))
  unfold ownC upX dnX
  split
  · rename_i e; rw [e]; omega
  · rfl
theorem cst_ge0 : 0 ≤ cstV r x := sg_ge0 fun i _ => by unfold ownC; omega
theorem round_lv (g : Good r) : ∀ (N : Nat) (x : Nat → Int), Lv r x → (cstV r x * 100000 + 81000 - sg x r.length).toNat = N → ∃ y, Lv r y ∧ (∀ i, i < r.length → y i ∈ levS r) ∧ cstV r y ≤ cstV r x := by
  intro N
  induction N using Nat.strongRecOn with
  | _ N ih =>
    intro x L hN
    by_cases hall : ∀ i, i < r.length → x i ∈ levS r
    · exact ⟨x, L, hall, Int.le_refl _⟩
    · have hex : ∃ i, i < r.length ∧ x i ∉ levS r := by
        refine Decidable.not_not.1 fun hn => hall fun i hi => Decidable.not_not.1 fun h2 => hn ⟨i, hi, h2⟩
      obtain ⟨i, hi, hv⟩ := hex
      have hb := both_cst (x := x) hv
      have hu := up_lv g L hv
      have hd := dn_lv g L hv
      have hn := g.n.2
      have sb : ∀ y, Lv r y → sg y r.length ≤ 81000 := fun y Ly => by
        have := sg_bd (f := y) (b := 9000) (n := r.length) (fun j hj => by have := Ly.b j hj; have := DM_le g hj; omega)
        omega
      have s0 := sb x L
      have s1 := sb _ hu
      have s2 := sb _ hd
      have c0 := cst_ge0 (r := r) (x := x)
      have c1 := cst_ge0 (r := r) (x := upX x (x i))
      have c2 := cst_ge0 (r := r) (x := dnX x (x i))
      by_cases hc : cstV r (upX x (x i)) ≤ cstV r x
      · have h1 : sg x r.length < sg (upX x (x i)) r.length := sg_lt hi (fun j _ => by unfold upX; split <;> omega) (by unfold upX; rw [if_pos rfl]; omega)
        obtain ⟨y, a, b, c⟩ := ih _ (by omega) _ hu rfl
        exact ⟨y, a, b, by omega⟩
      · have h1 : sg x r.length ≤ sg (dnX x (x i)) r.length + 9 := by
          have h2 : sg x r.length ≤ sg (fun j => dnX x (x i) j + 1) r.length := sg_le fun j _ => by unfold dnX; split <;> omega
          have h3 := sg_add (f := dnX x (x i)) (h := fun _ => 1) r.length
          have h4 := sg_bd (f := fun _ => 1) (b := 1) (n := r.length) (fun _ _ => Int.le_refl _)
          omega
        obtain ⟨y, a, b, c⟩ := ih _ (by omega) _ hd rfl
        exact ⟨y, a, b, by omega⟩
def subV (r : List RvT) (c : Nat → Int) (a : Nat) : Int := sg (fun i => if blB r i a = true then c i else 0) r.length
theorem dn_bl (hk : (r.getD k default).dn = (a : Int)) : bl r k a := by
  have := bl_down (r := r) (i := k) (by rw [hk]; omega)
  rwa [hk, Int.toNat_natCast] at this
theorem dn_dep (g : Good r) (hkl : k < r.length) (hk : (r.getD k default).dn = (a : Int)) : dep r k = dep r a + 1 := by
  have := dep_d g hkl (by rw [hk]; omega)
  rwa [hk, Int.toNat_natCast] at this
theorem tree_sum (g : Good r) (c : Nat → Int) (ha : a < r.length) : subV r c a = c a + sg (fun k => if (r.getD k default).dn = (a : Int) then subV r c k else 0) r.length := by
  have e1 : sg (fun k => if (r.getD k default).dn = (a : Int) then subV r c k else 0) r.length = sg (fun k => sg (fun i => if (r.getD k default).dn = (a : Int) ∧ blB r i k = true then c i else 0) r.length) r.length := by
    refine sg_congr fun k hk => ?_
    by_cases h1 : (r.getD k default).dn = (a : Int)
    · rw [if_pos h1]
      exact sg_congr fun i _ => by
        by_cases h2 : blB r i k = true
        · rw [if_pos h2, if_pos ⟨h1, h2⟩]
        · rw [if_neg h2, if_neg fun h => h2 h.2]
    · rw [if_neg h1]
      exact (sg_0 fun i _ => if_neg fun h => h1 h.1).symm
  have e2 : c a = sg (fun i => if i = a then c a else 0) r.length := (sg_one (p := fun i => i = a) ha rfl (fun i _ h => h)).symm
  rw [e1, sg_comm, e2, ← sg_add]
  refine sg_congr fun i hi => ?_
  by_cases hia : i = a
  · subst hia
    rw [if_pos ((blB_iff g hi).2 bl_refl), if_pos rfl, sg_0 (fun k hk => if_neg fun h => ?_)]
    · omega
    · have h1 := dn_bl h.1
      have h2 := (blB_iff g hi).1 h.2
      have := bl_two g hk hi h1 h2
      have := dn_dep g hk h.1
      subst k; omega
  · rw [if_neg hia]
    by_cases hb : blB r i a = true
    · rw [if_pos hb]
      have hbl := (blB_iff g hi).1 hb
      obtain ⟨j, hj, e⟩ := (bl_fin g hi).1 hbl
      have hj0 : 0 < j := by
        rcases Nat.eq_zero_or_pos j with h0 | h0
        · subst h0; exact absurd e hia
        · exact h0
      have hnm := (dep_is g hi).2.2 (j - 1) (by omega)
      have hup := stps_up hnm
      rw [show j - 1 + 1 = j by omega, e] at hup
      have hkl := stps_lt g hi (j - 1)
      have hpk := g.p _ hkl
      have hk0 : (r.getD (stps r (j - 1) i) default).dn = (a : Int) := by omega
      have hb0 : bl r i (stps r (j - 1) i) := ⟨j - 1, rfl⟩
      rw [sg_one (p := fun k => (r.getD k default).dn = (a : Int) ∧ blB r i k = true) hkl ⟨hk0, (blB_iff g hi).2 hb0⟩ (fun k hk h => ?_)]
      · omega
      · have d1 := dn_dep g hk h.1
        have d2 := dn_dep g hkl hk0
        have b1 := (blB_iff g hi).1 h.2
        by_cases ek : k = stps r (j - 1) i
        · exact ek
        · rcases bl_cmp b1 hb0 with h3 | h3
          · have := bl_anti g hk h3 ek; omega
          · have := bl_anti g hkl h3 (Ne.symm ek); omega
    · rw [if_neg hb, sg_0 (fun k hk => if_neg fun h => ?_)]
      · rfl
      · exact hb ((blB_iff g hi).2 (bl_tr ((blB_iff g hi).1 h.2) (dn_bl h.1)))
theorem sub_all (g : Good r) (c : Nat → Int) : subV r c (mthS r) = sg c r.length := sg_congr fun i hi => if_pos ((blB_iff g hi).2 (bl_mth g hi))
theorem sumF_sg {rec : Nat → Int → Int} {l : Int} : ∀ k, sumF rec r a l k = ownC r a l + sg (fun k => if (r.getD k default).dn = (a : Int) then rec k l else 0) k
  | 0 => by rw [sumF, sg]; omega
  | k + 1 => by rw [sumF, sg, sumF_sg k]; split <;> omega
theorem minF_le {rec : Nat → Int → Int} {low : Int} {j : Nat} : ∀ {m : Nat}, j < m → skipB r fx a low (lv.getD j default) = false → minF rec r lv fx a low m ≤ sumF rec r a (lv.getD j default) r.length
  | 0, hj, _ => absurd hj (Nat.not_lt_zero _)
  | m + 1, hj, hs => by
    rcases Nat.lt_or_ge j m with h1 | h1
    · have := minF_le h1 hs (rec := rec)
      unfold minF
      split <;> omega
    · have : j = m := by omega
      subst this
      rw [minF_more hs]; omega
theorem minF_at {rec : Nat → Int → Int} {low : Int} : ∀ {m : Nat}, m ≤ lv.length → minF rec r lv fx a low m < neverS → ∃ l, l ∈ lv ∧ skipB r fx a low l = false ∧ sumF rec r a l r.length = minF rec r lv fx a low m
  | 0, _, h => by rw [minF] at h; omega
  | m + 1, hm, h => by
    cases hs : skipB r fx a low (lv.getD m default) with
    | true => rw [minF_skip hs] at h ⊢; exact minF_at (by omega) h
    | false =>
      rw [minF_more hs] at h ⊢
      by_cases hc : sumF rec r a (lv.getD m default) r.length ≤ minF rec r lv fx a low m
      · exact ⟨_, K.gt_mem hm, hs, by omega⟩
      · obtain ⟨l, h1, h2, h3⟩ := minF_at (rec := rec) (low := low) (m := m) (by omega) (by omega)
        exact ⟨l, h1, h2, by omega⟩
structure Adm (r : List RvT) (lv fx : List Int) (x : Nat → Int) : Prop extends Lv r x where
  m : ∀ i, i < r.length → x i ∈ lv
  f : ∀ i, i < r.length → i < fx.length → fx.getD i default = x i + DM r i
theorem cost_lb (g : Good r) (X : Adm r lv fx x) : ∀ f a low, a < r.length → dep r a + f = r.length + 1 → low ≤ x a → costF r lv fx f a low ≤ subV r (fun i => ownC r i (x i)) a
  | 0, a, _, ha, hf, _ => by have := dep_lt g ha; omega
  | f + 1, a, low, ha, hf, hl => by
    obtain ⟨j, hj, e⟩ := List.mem_iff_getElem.1 (X.m a ha)
    have e : lv.getD j default = x a := by rw [List.getD_eq_getElem?_getD, List.getElem?_eq_getElem hj]; exact e
    have hs : skipB r fx a low (lv.getD j default) = false := by rw [e]; exact skip_n (by omega) (X.b a ha) (fun h => X.f a ha h)
    have h1 := minF_le (rec := costF r lv fx f) hj hs
    rw [e, sumF_sg] at h1
    rw [tree_sum g _ ha]
    show minF (costF r lv fx f) r lv fx a low lv.length ≤ _
    refine Int.le_trans h1 (Int.add_le_add_left (sg_le fun k hk => ?_) _)
    split
    · rename_i hd
      have h2 := X.d k hk (by rw [hd]; omega)
      rw [hd, Int.toNat_natCast] at h2
      have h3 := dn_dep g hk hd
      exact cost_lb g X f k (x a) hk (by omega) h2
    · exact Int.le_refl _
theorem ask_le (g : Good r) (X : Adm r lv fx x) : askS r lv fx ≤ cstV r x := by
  have hm := mth_is g
  have := cost_lb g X (r.length + 1) (mthS r) (-9000) hm.1 (by rw [(dep_m g hm.1).2 hm.2.1]; omega) (by have := lv_ge0 g X.toLv _ hm.1; omega)
  rw [sub_all g] at this
  exact this
def bstL (r : List RvT) (lv fx : List Int) (rec : Nat → Int → Int) (a : Nat) (low : Int) : Int := (lv.find? fun l => !skipB r fx a low l && decide (sumF rec r a l r.length = minF rec r lv fx a low lv.length)).getD 0
theorem bst_is {rec : Nat → Int → Int} {low : Int} (h : minF rec r lv fx a low lv.length < neverS) : bstL r lv fx rec a low ∈ lv ∧ skipB r fx a low (bstL r lv fx rec a low) = false ∧ sumF rec r a (bstL r lv fx rec a low) r.length = minF rec r lv fx a low lv.length := by
  obtain ⟨l, h1, h2, h3⟩ := minF_at (Nat.le_refl _) h
  cases e : lv.find? fun l => !skipB r fx a low l && decide (sumF rec r a l r.length = minF rec r lv fx a low lv.length) with
  | none =>
    have := List.find?_eq_none.1 e l h1
    rw [h2, decide_eq_true h3] at this
    exact absurd rfl this
  | some l' =>
    have e2 : bstL r lv fx rec a low = l' := by unfold bstL; rw [e]; rfl
    have h4 := List.find?_some e
    have h5 := List.mem_of_find?_eq_some e
    rw [Bool.and_eq_true, Bool.not_eq_true'] at h4
    rw [e2]
    exact ⟨h5, h4.1, of_decide_eq_true h4.2⟩
def XF (r : List RvT) (lv fx : List Int) : Nat → Nat → Int
  | 0, _ => 0
  | f + 1, i => bstL r lv fx (costF r lv fx (r.length - dep r i)) i (if (r.getD i default).dn = -1 then -9000 else XF r lv fx f (r.getD i default).dn.toNat)
def lowX (r : List RvT) (lv fx : List Int) (i : Nat) : Int := if (r.getD i default).dn = -1 then -9000 else XF r lv fx r.length (r.getD i default).dn.toNat
theorem XF_fuel (g : Good r) : ∀ f f' i, i < r.length → dep r i < f → dep r i < f' → XF r lv fx f i = XF r lv fx f' i
  | 0, _, _, _, h, _ => absurd h (Nat.not_lt_zero _)
  | _, 0, _, _, _, h => absurd h (Nat.not_lt_zero _)
  | f + 1, f' + 1, i, hi, h, h' => by
    rw [XF, XF]
    by_cases hd : (r.getD i default).dn = -1
    · rw [if_pos hd, if_pos hd]
    · have := dep_d g hi hd
      rw [if_neg hd, if_neg hd, XF_fuel g f f' _ (dn_lt g hi hd) (by omega) (by omega)]
theorem X_eq (g : Good r) (hi : i < r.length) : XF r lv fx r.length i = bstL r lv fx (costF r lv fx (r.length - dep r i)) i (lowX r lv fx i) := by
  have hd := dep_lt g hi
  rw [XF_fuel g r.length (r.length + 1) i hi hd (by omega), XF]; rfl
theorem X_is (g : Good r) (h : askS r lv fx < neverS) : ∀ i, i < r.length → costF r lv fx (r.length + 1 - dep r i) i (lowX r lv fx i) < neverS := by
  refine down_ind g (fun i hi hm => ?_) (fun i hi hm hlt ih => ?_)
  · have e := (mth_is g).2.2 i hi hm
    rw [(dep_m g hi).2 hm]
    unfold lowX
    rw [if_pos hm, e]
    exact h
  · have hdl := dep_lt g hlt
    have hdd := dep_d g hi hm
    rw [show r.length + 1 - dep r (r.getD i default).dn.toNat = r.length - dep r (r.getD i default).dn.toNat + 1 by omega] at ih
    have hb := bst_is (r := r) (lv := lv) (fx := fx) (rec := costF r lv fx (r.length - dep r (r.getD i default).dn.toNat)) (a := (r.getD i default).dn.toNat) (low := lowX r lv fx (r.getD i default).dn.toNat) ih
    rw [← X_eq g hlt, sumF_sg] at hb
    have hp := g.p i hi
    have hcb := cost_bd (lv := lv) (fx := fx) g (r.length - dep r (r.getD i default).dn.toNat)
    have ht := sg_term (f := fun k => if (r.getD k default).dn = (((r.getD i default).dn.toNat : Nat) : Int) then costF r lv fx (r.length - dep r (r.getD i default).dn.toNat) k (XF r lv fx r.length (r.getD i default).dn.toNat) else 0) hi (fun k hk => by
      split
      · exact (hcb k hk _).1
      · omega)
    rw [if_pos (by omega)] at ht
    have ho : 0 ≤ ownC r (r.getD i default).dn.toNat (XF r lv fx r.length (r.getD i default).dn.toNat) := by unfold ownC; omega
    have hl : lowX r lv fx i = XF r lv fx r.length (r.getD i default).dn.toNat := by unfold lowX; rw [if_neg hm]
    rw [hl, show r.length + 1 - dep r i = r.length - dep r (r.getD i default).dn.toNat by omega]
    have h3 := hb.2.2
    have h4 : minF (costF r lv fx (r.length - dep r (r.getD i default).dn.toNat)) r lv fx (r.getD i default).dn.toNat (lowX r lv fx (r.getD i default).dn.toNat) lv.length < neverS := ih
    omega
theorem X_at (g : Good r) (h : askS r lv fx < neverS) (hi : i < r.length) : XF r lv fx r.length i ∈ lv ∧ skipB r fx i (lowX r lv fx i) (XF r lv fx r.length i) = false ∧ sumF (costF r lv fx (r.length - dep r i)) r i (XF r lv fx r.length i) r.length = costF r lv fx (r.length + 1 - dep r i) i (lowX r lv fx i) := by
  have hd := dep_lt g hi
  have h1 := X_is g h i hi
  rw [show r.length + 1 - dep r i = r.length - dep r i + 1 by omega] at h1 ⊢
  have hb := bst_is (r := r) (lv := lv) (fx := fx) (rec := costF r lv fx (r.length - dep r i)) (a := i) (low := lowX r lv fx i) h1
  rw [← X_eq g hi] at hb
  exact hb
theorem X_sub (g : Good r) (h : askS r lv fx < neverS) : ∀ f a, a < r.length → dep r a + f = r.length + 1 → subV r (fun i => ownC r i (XF r lv fx r.length i)) a = costF r lv fx f a (lowX r lv fx a)
  | 0, a, ha, hf => by have := dep_lt g ha; omega
  | f + 1, a, ha, hf => by
    have h1 := (X_at g h ha).2.2
    rw [show r.length + 1 - dep r a = f + 1 by omega, show r.length - dep r a = f by omega, sumF_sg] at h1
    rw [tree_sum g _ ha, ← h1]
    congr 1
    refine sg_congr fun k hk => ?_
    by_cases hd : (r.getD k default).dn = (a : Int)
    · rw [if_pos hd, if_pos hd]
      have hdd := dn_dep g hk hd
      have hl : lowX r lv fx k = XF r lv fx r.length a := by unfold lowX; rw [if_neg (by rw [hd]; omega), hd, Int.toNat_natCast]
      rw [X_sub g h f k hk (by omega), hl]
    · rw [if_neg hd, if_neg hd]
theorem ask_is (g : Good r) (h : askS r lv fx < neverS) : ∃ x, Adm r lv fx x ∧ cstV r x = askS r lv fx := by
  refine ⟨XF r lv fx r.length, ⟨⟨fun i hi => ?_, fun i hi hd => ?_⟩, fun i hi => (X_at g h hi).1, fun i hi hf => ?_⟩, ?_⟩
  · exact (skip_no (X_at g h hi).2.1).2.1
  · have := (skip_no (X_at g h hi).2.1).1
    unfold lowX at this
    rw [if_neg hd] at this
    exact Int.not_lt.1 this
  · exact (skip_no (X_at g h hi).2.1).2.2 hf
  · have hm := mth_is g
    have := X_sub g h (r.length + 1) (mthS r) hm.1 (by rw [(dep_m g hm.1).2 hm.2.1]; omega)
    rw [sub_all g] at this
    unfold cstV cstF
    rw [this]
    unfold lowX
    rw [if_pos hm.2.1]; rfl
theorem adm_0 (g : Good r) : Adm r (levS r) [] (fun _ => 0) := by
  refine ⟨⟨fun i hi => by have := DM_le g hi; show 0 ≤ 0 + DM r i ∧ 0 + DM r i ≤ 9000; omega, fun _ _ _ => Int.le_refl _⟩, fun i hi => levS_in hi (by simp [lev3]), fun i _ hf => absurd hf (Nat.not_lt_zero _)⟩
theorem chg_few (g : Good r) : chgS r < neverS := by
  have h1 := ask_le g (adm_0 g)
  have h2 : cstV r (fun _ => 0) ≤ 9000 * (r.length : Int) := sg_bd fun i hi => by
    have := DM_le g hi
    exact (ownC_bd (l := 0) g hi (by omega)).2
  have := g.n.2
  have : neverS = 1099511627776 := rfl
  unfold chgS
  omega
theorem least_min (g : Good r) (R : Runs r h) : chgS r ≤ chgV r h := by
  have L := lv_of g R
  obtain ⟨y, Ly, hm, hc⟩ := round_lv g _ _ L rfl
  have h1 := ask_le (fx := []) g ⟨Ly, hm, fun i _ hf => absurd hf (Nat.not_lt_zero _)⟩
  have h2 := lv_chg (h := h) (x := fun i => h.getD i default - DM r i) (fun i _ => by show _ = h.getD i default - DM r i + DM r i; omega) r.length (Nat.le_refl _)
  unfold chgV chgS
  rw [h2]
  exact Int.le_trans h1 hc
theorem snoc_at {l : List Int} {y : Int} (hi : i < l.length) : (l ++ [y]).getD i default = l.getD i default := by
  rw [List.getD_eq_getElem?_getD, List.getElem?_append_left hi, List.getD_eq_getElem?_getD]
theorem snoc_end {l : List Int} {y : Int} : (l ++ [y]).getD l.length default = y := by
  rw [List.getD_eq_getElem?_getD, List.getElem?_append_right (Nat.le_refl _), Nat.sub_self]; rfl
theorem hgt_ask (g : Good r) : ∀ i, i ≤ r.length → askS r (levS r) (hgtF r (chgS r) i) = chgS r
  | 0, _ => rfl
  | i + 1, hi => by
    have ih := hgt_ask g i (by omega)
    have hf := chg_few g
    obtain ⟨x, X, hc⟩ := ask_is g (show askS r (levS r) (hgtF r (chgS r) i) < neverS by omega)
    have hl := hgt_len (r := r) (ch := chgS r) i
    have key : askS r (levS r) (hgtF r (chgS r) i ++ [x i + DM r i]) = chgS r := by
      have h1 : askS r (levS r) (hgtF r (chgS r) i ++ [x i + DM r i]) ≤ cstV r x := by
        refine ask_le g ⟨X.toLv, X.m, fun j hj hjf => ?_⟩
        rw [List.length_append, hl, List.length_singleton] at hjf
        rcases Nat.lt_or_ge j i with h2 | h2
        · rw [snoc_at (by omega)]; exact X.f j hj (by omega)
        · have : j = i := by omega
          subst this
          have e := snoc_end (l := hgtF r (chgS r) j) (y := x j + DM r j)
          rw [hl] at e; exact e
      obtain ⟨y, Y, hy⟩ := ask_is g (show askS r (levS r) (hgtF r (chgS r) i ++ [x i + DM r i]) < neverS by omega)
      have h2 : askS r (levS r) (hgtF r (chgS r) i) ≤ cstV r y := by
        refine ask_le g ⟨Y.toLv, Y.m, fun j hj hjf => ?_⟩
        have := Y.f j hj (by rw [List.length_append]; omega)
        rwa [snoc_at (by omega)] at this
      omega
    rw [hgtF]
    cases e : (levS r).find? fun l => decide (askS r (levS r) (hgtF r (chgS r) i ++ [l + DM r i]) = chgS r) with
    | none =>
      have := List.find?_eq_none.1 e (x i) (X.m i (by omega))
      exact absurd (decide_eq_true key) this
    | some l =>
      have := List.find?_some e
      exact of_decide_eq_true this
theorem least_is (g : Good r) : Runs r (hgtF r (chgS r) r.length) ∧ chgV r (hgtF r (chgS r) r.length) = chgS r := by
  have h1 := hgt_ask g r.length (Nat.le_refl _)
  have hf := chg_few g
  obtain ⟨x, X, hc⟩ := ask_is g (show askS r (levS r) (hgtF r (chgS r) r.length) < neverS by omega)
  have hl := hgt_len (r := r) (ch := chgS r) r.length
  have hx : ∀ i, i < r.length → (hgtF r (chgS r) r.length).getD i default = x i + DM r i := fun i hi => X.f i hi (by omega)
  refine ⟨lv_runs g X.toLv hl hx, ?_⟩
  unfold chgV
  rw [lv_chg hx r.length (Nat.le_refl _)]
  show cstV r x = _
  omega
theorem chgF_0 (e : ∀ i, i < r.length → h.getD i default = (r.getD i default).ht) : ∀ n, n ≤ r.length → chgF r h n = 0
  | 0, _ => rfl
  | n + 1, hn => by
    have := chgF_0 e n (by omega)
    have := e n (by omega)
    unfold chgF; omega
theorem chgF_mono (hn : ∀ n, 0 ≤ chgF r h n) (hk : i < k) : (max (h.getD i default - (r.getD i default).ht) ((r.getD i default).ht - h.getD i default)) ≤ chgF r h k := by
  induction k with
  | zero => exact absurd hk (Nat.not_lt_zero _)
  | succ k ih =>
    have h1 := hn k
    rcases Nat.lt_or_ge i k with h2 | h2
    · have := ih h2; unfold chgF; omega
    · have : i = k := by omega
      subst this
      rw [chgF]; omega
theorem chgF_ge0 : ∀ n, 0 ≤ chgF r h n
  | 0 => Int.le_refl _
  | n + 1 => by have := chgF_ge0 n; unfold chgF; omega
theorem least_0 (g : Good r) : chgS r = 0 ↔ badS r (ownS r) = [] := by
  constructor
  · intro h0
    obtain ⟨R, hc⟩ := least_is g
    have e : hgtF r (chgS r) r.length = ownS r := by
      refine list_ext (by rw [R.l, own_len]) (fun j hj => ?_)
      rw [R.l] at hj
      have := chgF_mono (r := r) (h := hgtF r (chgS r) r.length) chgF_ge0 hj
      unfold chgV at hc
      rw [own_at hj]; omega
    rw [e] at R
    have := runs_iff.2 R
    unfold runB at this
    rw [Bool.and_eq_true, List.isEmpty_iff] at this
    exact this.2
  · intro hb
    have R : Runs r (ownS r) := by
      refine ⟨own_len, fun i hi => own_bd g hi, fun i hi hd => ?_⟩
      rcases bad_no.1 (sel_nil.1 hb i hi) with h | h
      · exact absurd h hd
      · exact h
    have h1 := least_min g R
    have h2 : chgV r (ownS r) = 0 := chgF_0 (fun i hi => own_at hi) _ (Nat.le_refl _)
    obtain ⟨_, hc⟩ := least_is g
    have := chgF_ge0 (r := r) (h := hgtF r (chgS r) r.length) r.length
    unfold chgV at hc
    omega
end
end Go.Proofs.YtekkpcpbnonkaaaGreatDoor.Rv
end
section
set_option linter.unusedSimpArgs false
set_option linter.unusedVariables false
namespace Go.Proofs.YtekkpcpbnonkaaaGreatDoor.Rv
open Go
def mapP (f : Nat → RvT → RvT) (r : List RvT) (k : Nat) : List RvT := (List.range r.length).map fun i => if i < k then f i (r.getD i default) else r.getD i default
section
variable {f : Nat → RvT → RvT} {r : List RvT} {i k : Nat}
theorem mp_len : (mapP f r k).length = r.length := by simp [mapP]
theorem mp_at (h : i < r.length) : (mapP f r k).getD i default = if i < k then f i (r.getD i default) else r.getD i default := by
  unfold mapP; rw [List.getD_eq_getElem?_getD, List.getElem?_map, List.getElem?_range h]; rfl
theorem mp_0 : mapP f r 0 = r := by
  refine list_extE mp_len (fun j hj => ?_)
  rw [mp_len] at hj
  rw [mp_at hj, if_neg (Nat.not_lt_zero _)]
theorem mp_set (h : k < r.length) : (mapP f r k).set k (f k (r.getD k default)) = mapP f r (k + 1) := by
  refine list_extE (by rw [List.length_set, mp_len, mp_len]) (fun j hj => ?_)
  rw [List.length_set, mp_len] at hj
  rw [set_at (by rw [mp_len]; exact h), mp_at hj, mp_at hj]
  by_cases e : k = j
  · subst e; rw [if_pos rfl, if_pos (Nat.lt_succ_self k)]
  · rw [if_neg e]
    by_cases h1 : j < k
    · rw [if_pos h1, if_pos (by omega)]
    · rw [if_neg h1, if_neg (by omega)]
theorem mp_out (h : ¬ i < r.length) : (mapP f r k).getD i default = r.getD i default := by
  rw [List.getD_eq_getElem?_getD, List.getD_eq_getElem?_getD, List.getElem?_eq_none (by rw [mp_len]; omega), List.getElem?_eq_none (by omega)]
theorem mp_full (h : i < r.length) : (mapP f r r.length).getD i default = f i (r.getD i default) := by rw [mp_at h, if_pos h]
end
section
variable {r : List RvT} {t : Nat → Int} {i : Nat} {h : List Int}
end
end Go.Proofs.YtekkpcpbnonkaaaGreatDoor.Rv

namespace Go.Proofs.YtekkpcpbnonkaaaGreatDoor.Rv
open Go
section
variable {r : List RvT} {h : List Int}
theorem least_L (hc : (chk r).2.2 = 0) : Runs r (lstL r) ∧ chgV r (lstL r) = lstC r ∧ (∀ h, Runs r h → lstC r ≤ chgV r h) ∧ (lstC r = 0 ↔ badL r = []) := by
  have g := chk_good hc
  have e1 : lstL r = hgtF r (chgS r) r.length := by unfold lstL; rw [if_neg (by omega)]
  have e2 : lstC r = chgS r := by unfold lstC; rw [if_neg (by omega)]
  have e3 : badL r = badS r (ownS r) := by unfold badL; rw [if_neg (by omega)]
  rw [e1, e2, e3]
  exact ⟨(least_is g).1, (least_is g).2, fun h R => least_min g R, least_0 g⟩
end
end Go.Proofs.YtekkpcpbnonkaaaGreatDoor.Rv
end
section
namespace Go.Proofs.YtekkpcpbnonkaaaGreatDoor.Rv
open Go
def lvF (_ : Nat) (p : RvT) : RvT := { p with ls := 0 }
def lvS (r : List RvT) : List RvT := mapP lvF r r.length
section
variable {r : List RvT} {i : Nat} {h l : List Int} {kind u v : Int}
theorem lv_len : (lvS r).length = r.length := mp_len
theorem lv_in (hi : i < r.length) : (lvS r).getD i default = { r.getD i default with ls := 0 } := mp_full hi
theorem lv_like : Like r (lvS r) := by
  refine ⟨lv_len, fun i => ?_, fun i => ?_⟩
  all_goals
    by_cases h : i < r.length
    · rw [lv_in h]
    · unfold lvS; rw [mp_out h]
theorem lv_chk (hc : (chk r).2.2 = 0) : chk (lvS r) = (0, 0, 0) := by
  have g := chk_good hc
  refine chk_like lv_like hc (fun i hi => ?_)
  have hp := g.p i hi
  rw [lv_in hi]
  exact ⟨⟨by show 0 ≤ (0 : Int) ∧ (0 : Int) ≤ 500; omega, hp.1.2⟩, fun _ => rfl⟩
theorem cut_nn (hk : 1 ≤ kind ∧ kind ≤ 3) (hp : Sc.Parts u v) {x : Int} (h0 : 0 ≤ x) : 0 ≤ Sc.cutS kind x u v := by
  have hm : 0 ≤ x * u := Int.mul_nonneg h0 (by omega)
  have hd : 0 ≤ x * u / v := Int.ediv_nonneg hm (by omega)
  unfold Sc.cutS
  split <;> omega
theorem run_case (hc : (chk r).2.2 = 0) (h8 : r.length ≤ 8) (R : Runs r h) (hk : 1 ≤ kind ∧ kind ≤ 3) : Sc.Good kind 0 100000 h [] := by
  have g := chk_good hc
  have hn := g.n
  refine ⟨hk, by omega, by omega, ⟨by rw [R.l]; omega, by rw [R.l]; omega⟩, Nat.zero_le _, fun x hx => ?_, fun x hx => by simp at hx⟩
  obtain ⟨j, hj, e⟩ := List.mem_iff_getElem.1 hx
  have := R.b j (by rw [← R.l]; exact hj)
  rw [List.getD_eq_getElem?_getD, List.getElem?_eq_getElem hj] at this
  have e2 : h[j] = x := e
  have this : 0 ≤ h[j] ∧ h[j] ≤ 9000 := this
  omega
theorem ct_runs (hc : (chk r).2.2 = 0) (R : Runs r h) (hk : 1 ≤ kind ∧ kind ≤ 3) (hp : Sc.Parts u v) (hl : l = Sc.cuts kind 0 u v h) (far : ∀ j, j < l.length → l.getD j default ≤ 9000) : (chk (wthS (lvS r) l)).2.2 = 0 ∧ badL (wthS (lvS r) l) = [] := by
  have g := chk_good hc
  have hcl : (chk (lvS r)).2.2 = 0 := by rw [lv_chk hc]
  have hll : l.length = r.length := by rw [hl, Sc.cuts_len, R.l]
  have hat : ∀ i, i < r.length → l.getD i default = Sc.cutS kind (h.getD i default) u v := fun i hi => by
    rw [hl, Sc.cuts_at (by rw [R.l]; exact hi)]
    show Sc.cutS kind (h.getD i default - 0) u v = _
    rw [Int.sub_zero]
  have Rl : Runs (lvS r) l := by
    refine ⟨by rw [lv_len]; exact hll, fun i hi => ?_, fun i hi hd => ?_⟩
    · rw [lv_len] at hi
      have h1 := far i (by rw [hll]; exact hi)
      have h2 := cut_nn (kind := kind) hk hp (R.b i hi).1
      rw [hat i hi] at h1 ⊢
      exact ⟨h2, h1⟩
    · rw [lv_len] at hi
      rw [lv_in hi] at hd ⊢
      have hdl := dn_lt g hi hd
      have hd1 := R.d i hi hd
      have hls := (g.p i hi).1.1.1
      rw [hat i hi]
      show l.getD (r.getD i default).dn.toNat default + 0 ≤ _
      rw [hat _ hdl, Int.add_zero]
      exact Sc.cut_mono hk (R.b _ hdl).1 (by omega) (by omega) (by omega) (by omega) (Int.le_refl _)
  have hck : (chk (wthS (lvS r) l)).2.2 = 0 := by rw [w_chk hcl (fun i hi => Rl.b i hi)]
  refine ⟨hck, ?_⟩
  unfold badL
  rw [if_neg (by omega), w_own Rl.l]
  unfold badS
  rw [sel_nil]
  intro i hi
  have hs := w_same (r := lvS r) (l := l)
  rw [w_len] at hi
  rw [hs.badB]
  by_cases hd : ((lvS r).getD i default).dn = -1
  · exact bad_no.2 (.inl hd)
  · exact bad_no.2 (.inr (Rl.d i hi hd))
end
end Go.Proofs.YtekkpcpbnonkaaaGreatDoor.Rv
end
section
set_option linter.unusedSimpArgs false
set_option linter.unusedVariables false
namespace Go.Proofs.YtekkpcpbnonkaaaGreatDoor.Rv
open Go.RowKit Go
open Go.K (setd setn ev nth over cl eI eP eT setM setF)
attribute [local irreducible] K.blk K.row
def posV : Nat → Value
  | 0 => undef
  | p + 1 => .int .i64 (p : Int)
def posN : Value → Nat
  | .int _ q => q.toNat + 1
  | _ => 0
theorem posN_V {p : Nat} : posN (posV p) = p := by cases p <;> simp [posN, posV, undef]
theorem dec_key {s : ByteArray} {p : Nat} : ((Utf8.decode s p).2 = 1 ∧ ((Utf8.decode s p).1 : Int) = K.bt s p ∧ K.bt s p < 128) ∨ (128 ≤ ((Utf8.decode s p).1 : Int) ∧ 128 ≤ K.bt s p) := by
  by_cases h : K.bt s p < 128
  · left
    rw [K.decode_lo h]
    exact ⟨rfl, rfl, h⟩
  · right
    have := K.decode_hi h
    omega
theorem size_ne {s : ByteArray} : (!(s.toList == (⟨#[]⟩ : ByteArray).toList)) = decide (1 ≤ s.size) := by
  have h0 : (⟨#[]⟩ : ByteArray).toList = [] := (toList_nil_iff_emptyBytes _).2 rfl
  rw [h0, Bool.eq_iff_iff]
  simp only [Bool.not_eq_true', beq_eq_false_iff_ne, ne_eq, decide_eq_true_eq, toList_nil_iff_emptyBytes]
  constructor
  · intro h
    rcases Nat.eq_zero_or_pos s.size with h1 | h1
    · exfalso; apply h
      cases s with
      | mk d => simp [ByteArray.size] at h1; subst h1; rfl
    · exact h1
  · rintro h rfl
    exact absurd h (by decide)
theorem ok_f {p : Nat} {b : Int} (h : ¬ ((97 ≤ b ∧ b ≤ 122) ∨ (0 < p ∧ ((48 ≤ b ∧ b ≤ 57) ∨ b = 45)))) : okC p b = false := decide_eq_false h
theorem ok_t {p : Nat} {b : Int} (h : (97 ≤ b ∧ b ≤ 122) ∨ (0 < p ∧ ((48 ≤ b ∧ b ≤ 57) ∨ b = 45))) : okC p b = true := decide_eq_true h
theorem name_end {s : ByteArray} {p : Nat} (h1 : 1 ≤ s.size) (hp : ¬ p < s.size) (hall : ∀ j, j < p → okC j (K.bt s j) = true) : decide ((s.size : Int) ≤ 16) = nameB s := by
  by_cases h : s.size ≤ 16
  · rw [name_t ⟨h1, h⟩ (fun i hi => hall i (by omega)), decide_eq_true (by omega)]
  · rw [name_f1 (by omega), decide_eq_false (by omega)]
theorem name_end0 {s : ByteArray} (h1 : ¬ 1 ≤ s.size) : false = nameB s := by rw [name_f1 (by omega)]

set_option maxRecDepth 100000 in
theorem c48 {s : ByteArray} (w : World) :
    Calls Tryz.prog 75 [.string s].toArray w (K.Gives (.bool (nameB s)) w) := by
  refine K.enter (args := [.string s]) Tryz.func75 rfl (n := 40) rfl ?_
  simp only [List.replicate, List.cons_append, List.nil_append]
  refine sr ?_
  refine qa ?_
  refine sn ?_
  refine K.seq ?_
  refine sr ?_
  refine qm ?_
  refine K.seq_loud (K.rangeS sT_9 rfl) rfl ?_
  rintro b6 _
  refine zN ?_
  refine sn ?_
  refine K.block ?_
  refine K.loopW [3] [2, 4, 7, 8, 9, 10, 11, 12, 13, 14, 15, 16, 17, 18, 19, 20, 21, 22, 23, 24, 25, 26, 27, 28, 29, 30, 31, 32, 33] (fun vi L => ∃ p : Nat, vi = [posV p] ∧ L = [K.sit b6 s p] ∧ p ≤ s.size ∧ ∀ j, j < p → okC j (K.bt s j) = true) (fun vi => s.size - posN (K.nth vi 0)) ?_ ?_
  · exact ⟨0, rfl, rfl, Nat.zero_le _, fun j hj => absurd hj (Nat.not_lt_zero j)⟩
  intro vi vr L hJ
  obtain ⟨p, rfl, rfl, hps, hall⟩ := hJ
  try dsimp only [setd, setn, ev, nth, over, cl, eI, eP, eT, eR, setM, setF, List.map, List.append, List.drop, List.take]
  refine sr ?_
  by_cases hnx7 : p < s.size
  · refine K.seq_upd (K.nextS_more rfl hnx7 (K.rp0)) rfl ?_
    rintro _ _
    refine zN ?_
    refine qx ?_
    refine sn ?_
    refine K.seq ?_
    refine K.cond_true rfl ?_
    refine K.skip ?_
    refine K.norm_then ?_
    refine K.block ?_
    refine sr ?_
    refine qx ?_
    refine qx ?_
    iterate 2 refine qa ?_
    refine sn ?_
    refine sr ?_
    refine qm ?_
    refine qp (K.geq rfl rfl) ?_
    refine qm ?_
    refine K.split 13 rfl (fun hg13 => ?_) (fun hg13 => ?_)
    · try replace hg13 := of_decide_eq_true hg13
      refine qm ?_
      refine qp (K.leq rfl rfl) ?_
      refine qp (K.pick_t rfl) ?_
      refine qm ?_
      refine K.split 17 rfl (fun hg17 => ?_) (fun hg17 => ?_)
      · try replace hg17 := of_decide_eq_true hg17
        iterate 14 refine qs ?_
        refine qp (K.pick_t rfl) ?_
        first | refine K.seq_pure (K.not_d rfl) rfl ?_ | refine K.seq_pure (K.not_ rfl) rfl ?_
        refine zN ?_
        refine sn ?_
        refine K.cond rfl (fun ht33 => ?_) (fun ht33 => ?_)
        · try replace ht33 := of_decide_eq_true ht33
          refine sr ?_
          refine qa ?_
          refine sn ?_
          refine K.ret ?_
          refine K.ret_block ?_
          refine K.ret_then ?_
          refine K.ret_block ?_
          refine K.ret_then ?_
          refine K.end_ret (fun w _ => K.res_tmp rfl w) ?_
          first
            | exact absurd ht33 (by decide)
            | exact K.gives_b rfl (name_f2 hnx7 (ok_f (by rcases dec_key (s := s) (p := p) with ⟨hk1, hk2, hk3⟩ | ⟨hk1, hk2⟩ <;> omega))).symm
        try replace ht33 := of_decide_eq_false ht33
        refine K.skip ?_
        refine K.norm_block ?_
        have hc : okC p (K.bt s p) = true ∧ (Utf8.decode s p).2 = 1 := by
          first
            | exact absurd ht33 (by decide)
            | (rcases dec_key (s := s) (p := p) with ⟨hk1, hk2, hk3⟩ | ⟨hk1, hk2⟩ <;> first | exact ⟨ok_t (by omega), hk1⟩ | (exfalso; omega))
        exact K.round_endW (L'' := [K.sit b6 s (p + 1)]) [.int .i64 (p : Int)] ⟨p + 1, rfl, rfl, by omega, K.lt_succ_case hall hc.1⟩ (by show s.size - posN (.int .i64 (p : Int)) < s.size - posN (posV p); rw [posN_V]; simp [posN]; omega) (by rw [hc.2]; exact List.Sublist.refl _) (by kernel_rfl)
      try replace hg17 := of_decide_eq_false hg17
      refine qm ?_
      refine qp (K.gtr rfl rfl) ?_
      refine qm ?_
      refine K.split 20 rfl (fun hg20 => ?_) (fun hg20 => ?_)
      · try replace hg20 := of_decide_eq_true hg20
        refine qm ?_
        refine qp (K.geq rfl rfl) ?_
        refine qm ?_
        refine K.split 23 rfl (fun hg23 => ?_) (fun hg23 => ?_)
        · try replace hg23 := of_decide_eq_true hg23
          refine qm ?_
          refine qp (K.leq rfl rfl) ?_
          refine qp (K.pick_t rfl) ?_
          refine qm ?_
          refine K.split 27 rfl (fun hg27 => ?_) (fun hg27 => ?_)
          · try replace hg27 := of_decide_eq_true hg27
            iterate 2 refine qs ?_
            refine qp (K.pick_t rfl) ?_
            refine qp (K.pick_t rfl) ?_
            refine qp (K.pick_f rfl) ?_
            first | refine K.seq_pure (K.not_d rfl) rfl ?_ | refine K.seq_pure (K.not_ rfl) rfl ?_
            refine zN ?_
            refine sn ?_
            refine K.cond rfl (fun ht33 => ?_) (fun ht33 => ?_)
            · try replace ht33 := of_decide_eq_true ht33
              refine sr ?_
              refine qa ?_
              refine sn ?_
              refine K.ret ?_
              refine K.ret_block ?_
              refine K.ret_then ?_
              refine K.ret_block ?_
              refine K.ret_then ?_
              refine K.end_ret (fun w _ => K.res_tmp rfl w) ?_
              first
                | exact absurd ht33 (by decide)
                | exact K.gives_b rfl (name_f2 hnx7 (ok_f (by rcases dec_key (s := s) (p := p) with ⟨hk1, hk2, hk3⟩ | ⟨hk1, hk2⟩ <;> omega))).symm
            try replace ht33 := of_decide_eq_false ht33
            refine K.skip ?_
            refine K.norm_block ?_
            have hc : okC p (K.bt s p) = true ∧ (Utf8.decode s p).2 = 1 := by
              first
                | exact absurd ht33 (by decide)
                | (rcases dec_key (s := s) (p := p) with ⟨hk1, hk2, hk3⟩ | ⟨hk1, hk2⟩ <;> first | exact ⟨ok_t (by omega), hk1⟩ | (exfalso; omega))
            exact K.round_endW (L'' := [K.sit b6 s (p + 1)]) [.int .i64 (p : Int)] ⟨p + 1, rfl, rfl, by omega, K.lt_succ_case hall hc.1⟩ (by show s.size - posN (.int .i64 (p : Int)) < s.size - posN (posV p); rw [posN_V]; simp [posN]; omega) (by rw [hc.2]; exact List.Sublist.refl _) (by kernel_rfl)
          try replace hg27 := of_decide_eq_false hg27
          refine qm ?_
          refine qp (K.eql rfl rfl) ?_
          refine qp (K.pick_f rfl) ?_
          refine qp (K.pick_t rfl) ?_
          refine qp (K.pick_f rfl) ?_
          first | refine K.seq_pure (K.not_d rfl) rfl ?_ | refine K.seq_pure (K.not_ rfl) rfl ?_
          refine zN ?_
          refine sn ?_
          refine K.cond rfl (fun ht33 => ?_) (fun ht33 => ?_)
          · try replace ht33 := of_decide_eq_true ht33
            refine sr ?_
            refine qa ?_
            refine sn ?_
            refine K.ret ?_
            refine K.ret_block ?_
            refine K.ret_then ?_
            refine K.ret_block ?_
            refine K.ret_then ?_
            refine K.end_ret (fun w _ => K.res_tmp rfl w) ?_
            first
              | exact absurd ht33 (by decide)
              | exact K.gives_b rfl (name_f2 hnx7 (ok_f (by rcases dec_key (s := s) (p := p) with ⟨hk1, hk2, hk3⟩ | ⟨hk1, hk2⟩ <;> omega))).symm
          try replace ht33 := of_decide_eq_false ht33
          refine K.skip ?_
          refine K.norm_block ?_
          have hc : okC p (K.bt s p) = true ∧ (Utf8.decode s p).2 = 1 := by
            first
              | exact absurd ht33 (by decide)
              | (rcases dec_key (s := s) (p := p) with ⟨hk1, hk2, hk3⟩ | ⟨hk1, hk2⟩ <;> first | exact ⟨ok_t (by omega), hk1⟩ | (exfalso; omega))
          exact K.round_endW (L'' := [K.sit b6 s (p + 1)]) [.int .i64 (p : Int)] ⟨p + 1, rfl, rfl, by omega, K.lt_succ_case hall hc.1⟩ (by show s.size - posN (.int .i64 (p : Int)) < s.size - posN (posV p); rw [posN_V]; simp [posN]; omega) (by rw [hc.2]; exact List.Sublist.refl _) (by kernel_rfl)
        try replace hg23 := of_decide_eq_false hg23
        iterate 2 refine qs ?_
        refine qp (K.pick_f rfl) ?_
        iterate 2 refine qm ?_
        refine qp (K.eql rfl rfl) ?_
        refine qp (K.pick_f rfl) ?_
        refine qp (K.pick_t rfl) ?_
        refine qp (K.pick_f rfl) ?_
        first | refine K.seq_pure (K.not_d rfl) rfl ?_ | refine K.seq_pure (K.not_ rfl) rfl ?_
        refine zN ?_
        refine sn ?_
        refine K.cond rfl (fun ht33 => ?_) (fun ht33 => ?_)
        · try replace ht33 := of_decide_eq_true ht33
          refine sr ?_
          refine qa ?_
          refine sn ?_
          refine K.ret ?_
          refine K.ret_block ?_
          refine K.ret_then ?_
          refine K.ret_block ?_
          refine K.ret_then ?_
          refine K.end_ret (fun w _ => K.res_tmp rfl w) ?_
          first
            | exact absurd ht33 (by decide)
            | exact K.gives_b rfl (name_f2 hnx7 (ok_f (by rcases dec_key (s := s) (p := p) with ⟨hk1, hk2, hk3⟩ | ⟨hk1, hk2⟩ <;> omega))).symm
        try replace ht33 := of_decide_eq_false ht33
        refine K.skip ?_
        refine K.norm_block ?_
        have hc : okC p (K.bt s p) = true ∧ (Utf8.decode s p).2 = 1 := by
          first
            | exact absurd ht33 (by decide)
            | (rcases dec_key (s := s) (p := p) with ⟨hk1, hk2, hk3⟩ | ⟨hk1, hk2⟩ <;> first | exact ⟨ok_t (by omega), hk1⟩ | (exfalso; omega))
        exact K.round_endW (L'' := [K.sit b6 s (p + 1)]) [.int .i64 (p : Int)] ⟨p + 1, rfl, rfl, by omega, K.lt_succ_case hall hc.1⟩ (by show s.size - posN (.int .i64 (p : Int)) < s.size - posN (posV p); rw [posN_V]; simp [posN]; omega) (by rw [hc.2]; exact List.Sublist.refl _) (by kernel_rfl)
      try replace hg20 := of_decide_eq_false hg20
      iterate 10 refine qs ?_
      refine qp (K.pick_f rfl) ?_
      refine qp (K.pick_f rfl) ?_
      first | refine K.seq_pure (K.not_d rfl) rfl ?_ | refine K.seq_pure (K.not_ rfl) rfl ?_
      refine zN ?_
      refine sn ?_
      refine K.cond rfl (fun ht33 => ?_) (fun ht33 => ?_)
      · try replace ht33 := of_decide_eq_true ht33
        refine sr ?_
        refine qa ?_
        refine sn ?_
        refine K.ret ?_
        refine K.ret_block ?_
        refine K.ret_then ?_
        refine K.ret_block ?_
        refine K.ret_then ?_
        refine K.end_ret (fun w _ => K.res_tmp rfl w) ?_
        first
          | exact absurd ht33 (by decide)
          | exact K.gives_b rfl (name_f2 hnx7 (ok_f (by rcases dec_key (s := s) (p := p) with ⟨hk1, hk2, hk3⟩ | ⟨hk1, hk2⟩ <;> omega))).symm
      try replace ht33 := of_decide_eq_false ht33
      refine K.skip ?_
      refine K.norm_block ?_
      have hc : okC p (K.bt s p) = true ∧ (Utf8.decode s p).2 = 1 := by
        first
          | exact absurd ht33 (by decide)
          | (rcases dec_key (s := s) (p := p) with ⟨hk1, hk2, hk3⟩ | ⟨hk1, hk2⟩ <;> first | exact ⟨ok_t (by omega), hk1⟩ | (exfalso; omega))
      exact K.round_endW (L'' := [K.sit b6 s (p + 1)]) [.int .i64 (p : Int)] ⟨p + 1, rfl, rfl, by omega, K.lt_succ_case hall hc.1⟩ (by show s.size - posN (.int .i64 (p : Int)) < s.size - posN (posV p); rw [posN_V]; simp [posN]; omega) (by rw [hc.2]; exact List.Sublist.refl _) (by kernel_rfl)
    try replace hg13 := of_decide_eq_false hg13
    iterate 2 refine qs ?_
    refine qp (K.pick_f rfl) ?_
    iterate 2 refine qm ?_
    refine qp (K.gtr rfl rfl) ?_
    refine qm ?_
    refine K.split 20 rfl (fun hg20 => ?_) (fun hg20 => ?_)
    · try replace hg20 := of_decide_eq_true hg20
      refine qm ?_
      refine qp (K.geq rfl rfl) ?_
      refine qm ?_
      refine K.split 23 rfl (fun hg23 => ?_) (fun hg23 => ?_)
      · try replace hg23 := of_decide_eq_true hg23
        refine qm ?_
        refine qp (K.leq rfl rfl) ?_
        refine qp (K.pick_t rfl) ?_
        refine qm ?_
        refine K.split 27 rfl (fun hg27 => ?_) (fun hg27 => ?_)
        · try replace hg27 := of_decide_eq_true hg27
          iterate 2 refine qs ?_
          refine qp (K.pick_t rfl) ?_
          refine qp (K.pick_t rfl) ?_
          refine qp (K.pick_f rfl) ?_
          first | refine K.seq_pure (K.not_d rfl) rfl ?_ | refine K.seq_pure (K.not_ rfl) rfl ?_
          refine zN ?_
          refine sn ?_
          refine K.cond rfl (fun ht33 => ?_) (fun ht33 => ?_)
          · try replace ht33 := of_decide_eq_true ht33
            refine sr ?_
            refine qa ?_
            refine sn ?_
            refine K.ret ?_
            refine K.ret_block ?_
            refine K.ret_then ?_
            refine K.ret_block ?_
            refine K.ret_then ?_
            refine K.end_ret (fun w _ => K.res_tmp rfl w) ?_
            first
              | exact absurd ht33 (by decide)
              | exact K.gives_b rfl (name_f2 hnx7 (ok_f (by rcases dec_key (s := s) (p := p) with ⟨hk1, hk2, hk3⟩ | ⟨hk1, hk2⟩ <;> omega))).symm
          try replace ht33 := of_decide_eq_false ht33
          refine K.skip ?_
          refine K.norm_block ?_
          have hc : okC p (K.bt s p) = true ∧ (Utf8.decode s p).2 = 1 := by
            first
              | exact absurd ht33 (by decide)
              | (rcases dec_key (s := s) (p := p) with ⟨hk1, hk2, hk3⟩ | ⟨hk1, hk2⟩ <;> first | exact ⟨ok_t (by omega), hk1⟩ | (exfalso; omega))
          exact K.round_endW (L'' := [K.sit b6 s (p + 1)]) [.int .i64 (p : Int)] ⟨p + 1, rfl, rfl, by omega, K.lt_succ_case hall hc.1⟩ (by show s.size - posN (.int .i64 (p : Int)) < s.size - posN (posV p); rw [posN_V]; simp [posN]; omega) (by rw [hc.2]; exact List.Sublist.refl _) (by kernel_rfl)
        try replace hg27 := of_decide_eq_false hg27
        refine qm ?_
        refine qp (K.eql rfl rfl) ?_
        refine qp (K.pick_f rfl) ?_
        refine qp (K.pick_t rfl) ?_
        refine qp (K.pick_f rfl) ?_
        first | refine K.seq_pure (K.not_d rfl) rfl ?_ | refine K.seq_pure (K.not_ rfl) rfl ?_
        refine zN ?_
        refine sn ?_
        refine K.cond rfl (fun ht33 => ?_) (fun ht33 => ?_)
        · try replace ht33 := of_decide_eq_true ht33
          refine sr ?_
          refine qa ?_
          refine sn ?_
          refine K.ret ?_
          refine K.ret_block ?_
          refine K.ret_then ?_
          refine K.ret_block ?_
          refine K.ret_then ?_
          refine K.end_ret (fun w _ => K.res_tmp rfl w) ?_
          first
            | exact absurd ht33 (by decide)
            | exact K.gives_b rfl (name_f2 hnx7 (ok_f (by rcases dec_key (s := s) (p := p) with ⟨hk1, hk2, hk3⟩ | ⟨hk1, hk2⟩ <;> omega))).symm
        try replace ht33 := of_decide_eq_false ht33
        refine K.skip ?_
        refine K.norm_block ?_
        have hc : okC p (K.bt s p) = true ∧ (Utf8.decode s p).2 = 1 := by
          first
            | exact absurd ht33 (by decide)
            | (rcases dec_key (s := s) (p := p) with ⟨hk1, hk2, hk3⟩ | ⟨hk1, hk2⟩ <;> first | exact ⟨ok_t (by omega), hk1⟩ | (exfalso; omega))
        exact K.round_endW (L'' := [K.sit b6 s (p + 1)]) [.int .i64 (p : Int)] ⟨p + 1, rfl, rfl, by omega, K.lt_succ_case hall hc.1⟩ (by show s.size - posN (.int .i64 (p : Int)) < s.size - posN (posV p); rw [posN_V]; simp [posN]; omega) (by rw [hc.2]; exact List.Sublist.refl _) (by kernel_rfl)
      try replace hg23 := of_decide_eq_false hg23
      iterate 2 refine qs ?_
      refine qp (K.pick_f rfl) ?_
      iterate 2 refine qm ?_
      refine qp (K.eql rfl rfl) ?_
      refine qp (K.pick_f rfl) ?_
      refine qp (K.pick_t rfl) ?_
      refine qp (K.pick_f rfl) ?_
      first | refine K.seq_pure (K.not_d rfl) rfl ?_ | refine K.seq_pure (K.not_ rfl) rfl ?_
      refine zN ?_
      refine sn ?_
      refine K.cond rfl (fun ht33 => ?_) (fun ht33 => ?_)
      · try replace ht33 := of_decide_eq_true ht33
        refine sr ?_
        refine qa ?_
        refine sn ?_
        refine K.ret ?_
        refine K.ret_block ?_
        refine K.ret_then ?_
        refine K.ret_block ?_
        refine K.ret_then ?_
        refine K.end_ret (fun w _ => K.res_tmp rfl w) ?_
        first
          | exact absurd ht33 (by decide)
          | exact K.gives_b rfl (name_f2 hnx7 (ok_f (by rcases dec_key (s := s) (p := p) with ⟨hk1, hk2, hk3⟩ | ⟨hk1, hk2⟩ <;> omega))).symm
      try replace ht33 := of_decide_eq_false ht33
      refine K.skip ?_
      refine K.norm_block ?_
      have hc : okC p (K.bt s p) = true ∧ (Utf8.decode s p).2 = 1 := by
        first
          | exact absurd ht33 (by decide)
          | (rcases dec_key (s := s) (p := p) with ⟨hk1, hk2, hk3⟩ | ⟨hk1, hk2⟩ <;> first | exact ⟨ok_t (by omega), hk1⟩ | (exfalso; omega))
      exact K.round_endW (L'' := [K.sit b6 s (p + 1)]) [.int .i64 (p : Int)] ⟨p + 1, rfl, rfl, by omega, K.lt_succ_case hall hc.1⟩ (by show s.size - posN (.int .i64 (p : Int)) < s.size - posN (posV p); rw [posN_V]; simp [posN]; omega) (by rw [hc.2]; exact List.Sublist.refl _) (by kernel_rfl)
    try replace hg20 := of_decide_eq_false hg20
    iterate 10 refine qs ?_
    refine qp (K.pick_f rfl) ?_
    refine qp (K.pick_f rfl) ?_
    first | refine K.seq_pure (K.not_d rfl) rfl ?_ | refine K.seq_pure (K.not_ rfl) rfl ?_
    refine zN ?_
    refine sn ?_
    refine K.cond rfl (fun ht33 => ?_) (fun ht33 => ?_)
    · try replace ht33 := of_decide_eq_true ht33
      refine sr ?_
      refine qa ?_
      refine sn ?_
      refine K.ret ?_
      refine K.ret_block ?_
      refine K.ret_then ?_
      refine K.ret_block ?_
      refine K.ret_then ?_
      refine K.end_ret (fun w _ => K.res_tmp rfl w) ?_
      first
        | exact absurd ht33 (by decide)
        | exact K.gives_b rfl (name_f2 hnx7 (ok_f (by rcases dec_key (s := s) (p := p) with ⟨hk1, hk2, hk3⟩ | ⟨hk1, hk2⟩ <;> omega))).symm
    try replace ht33 := of_decide_eq_false ht33
    refine K.skip ?_
    refine K.norm_block ?_
    have hc : okC p (K.bt s p) = true ∧ (Utf8.decode s p).2 = 1 := by
      first
        | exact absurd ht33 (by decide)
        | (rcases dec_key (s := s) (p := p) with ⟨hk1, hk2, hk3⟩ | ⟨hk1, hk2⟩ <;> first | exact ⟨ok_t (by omega), hk1⟩ | (exfalso; omega))
    exact K.round_endW (L'' := [K.sit b6 s (p + 1)]) [.int .i64 (p : Int)] ⟨p + 1, rfl, rfl, by omega, K.lt_succ_case hall hc.1⟩ (by show s.size - posN (.int .i64 (p : Int)) < s.size - posN (posV p); rw [posN_V]; simp [posN]; omega) (by rw [hc.2]; exact List.Sublist.refl _) (by kernel_rfl)
  refine K.seq_sil (K.nextS_over rfl hnx7 (K.m0)) rfl ?_
  refine zN ?_
  refine qx ?_
  refine sn ?_
  refine K.seq ?_
  refine K.cond_false rfl ?_
  refine K.exit ?_
  refine K.exit_then ?_
  refine K.exit_then ?_
  refine K.exit_here ?_
  refine K.norm_then ?_
  refine sr ?_
  refine qm ?_
  refine qp (K.Pure.eq (K.neq_s rfl rfl) (show _ = Value.bool (decide (1 ≤ s.size)) from by rw [size_ne])) ?_
  refine qm ?_
  refine K.split 36 rfl (fun hg36 => ?_) (fun hg36 => ?_)
  · try replace hg36 := of_decide_eq_true hg36
    refine qm ?_
    refine qp (K.len_s sT_9 rfl) ?_
    refine qp (K.leq rfl rfl) ?_
    refine qp (K.pick_t rfl) ?_
    refine qa ?_
    refine sn ?_
    refine K.ret ?_
    refine K.end_ret (fun w _ => K.res_tmp rfl w) ?_
    exact K.gives_b rfl (name_end hg36 hnx7 hall)
  try replace hg36 := of_decide_eq_false hg36
  iterate 3 refine qs ?_
  refine qp (K.pick_f rfl) ?_
  refine qa ?_
  refine sn ?_
  refine K.ret ?_
  refine K.end_ret (fun w _ => K.res_tmp rfl w) ?_
  exact K.gives_b rfl (name_end0 hg36)

end Go.Proofs.YtekkpcpbnonkaaaGreatDoor.Rv
end
section
set_option linter.unusedSimpArgs false
set_option linter.unusedVariables false
namespace Go.Proofs.YtekkpcpbnonkaaaGreatDoor.Rv
open Go.RowKit Go
open Go.K (setd setn ev nth over cl eI eP eT setM setF)
attribute [local irreducible] K.blk K.row
def eB (s : ByteArray) : List Value := [.string s]
theorem bs62 (s : ByteArray) : K.Bs Tryz.prog 47 1 [(0, .string s)] 9 [.string s] := fun w => by kernel_rfl

set_option maxRecDepth 100000 in
theorem c82 {s : ByteArray} (w : World) :
    Calls Tryz.prog 49 [.string s].toArray w (K.Gives (.bool (nameB s)) w) := by
  refine K.enter (args := [.string s]) Tryz.func49 rfl (n := 51) rfl ?_
  simp only [List.replicate, List.cons_append, List.nil_append]
  refine sr ?_
  refine qa ?_
  refine sn ?_
  refine K.seq ?_
  refine sr ?_
  refine qm ?_
  refine qp (K.len_s sT_9 rfl) ?_
  refine K.seq_call (K.call_g cal_82 (fun F w hF hw => c96 w)) rfl ?_
  refine zN ?_
  refine qp (K.not_d rfl) ?_
  refine qm ?_
  refine K.split 8 rfl (fun hg8 => ?_) (fun hg8 => ?_)
  · try replace hg8 := of_decide_eq_true hg8
    iterate 3 refine qs ?_
    refine qp (K.pick_t rfl) ?_
    refine qm ?_
    iterate 3 refine qs ?_
    refine qp (K.pick_t rfl) ?_
    refine sn ?_
    refine K.cond_true rfl ?_
    refine sr ?_
    refine qa ?_
    refine sn ?_
    refine K.ret ?_
    refine K.ret_then ?_
    refine K.end_ret (fun w _ => K.res_tmp rfl w) ?_
    first
      | exact absurd ht17 (by decide)
      | exact K.gives_b rfl (name_f1 (by omega)).symm
      | exact K.gives_b rfl (name_f2 (i := 0) (by omega) (ok_f (by omega))).symm
  try replace hg8 := of_decide_eq_false hg8
  refine qm ?_
  refine K.seq_pure (K.index_s (m := 0) sT_9 rfl rfl rfl (by omega)) rfl ?_
  refine zN ?_
  refine qp (K.lss rfl rfl) ?_
  refine qp (K.pick_f rfl) ?_
  refine qm ?_
  refine K.split 13 rfl (fun hg13 => ?_) (fun hg13 => ?_)
  · try replace hg13 := of_decide_eq_true hg13
    iterate 3 refine qs ?_
    refine qp (K.pick_t rfl) ?_
    refine sn ?_
    refine K.cond_true rfl ?_
    refine sr ?_
    refine qa ?_
    refine sn ?_
    refine K.ret ?_
    refine K.ret_then ?_
    refine K.end_ret (fun w _ => K.res_tmp rfl w) ?_
    first
      | exact absurd ht17 (by decide)
      | exact K.gives_b rfl (name_f1 (by omega)).symm
      | exact K.gives_b rfl (name_f2 (i := 0) (by omega) (ok_f (by omega))).symm
  try replace hg13 := of_decide_eq_false hg13
  refine qm ?_
  refine K.seq_pure (K.index_s (m := 0) sT_9 rfl rfl rfl (by omega)) rfl ?_
  refine zN ?_
  refine qp (K.gtr rfl rfl) ?_
  refine qp (K.pick_f rfl) ?_
  refine sn ?_
  refine K.cond rfl (fun ht17 => ?_) (fun ht17 => ?_)
  · try replace ht17 := of_decide_eq_true ht17
    refine sr ?_
    refine qa ?_
    refine sn ?_
    refine K.ret ?_
    refine K.ret_then ?_
    refine K.end_ret (fun w _ => K.res_tmp rfl w) ?_
    first
      | exact absurd ht17 (by decide)
      | exact K.gives_b rfl (name_f1 (by omega)).symm
      | exact K.gives_b rfl (name_f2 (i := 0) (by omega) (ok_f (by omega))).symm
  try replace ht17 := of_decide_eq_false ht17
  refine K.skip ?_
  refine K.norm_then ?_
  refine K.seq ?_
  refine sr ?_
  refine qa ?_
  refine sn ?_
  refine K.block ?_
  refine K.loopW [3] [2, 18, 19, 20, 21, 22, 23, 24, 25, 26, 27, 28, 29, 30, 31, 32, 33, 34, 35, 36, 37, 38, 39, 40, 41, 42, 43, 44, 45, 46, 47, 48, 49, 50, 51] (fun vi L => ∃ i : Nat, vi = [.int .i64 (i : Int)] ∧ L = [] ∧ i ≤ s.size ∧ ∀ j, j < i → okC j (K.bt s j) = true) (fun vi => s.size - (intOf (K.nth vi 0)).toNat) ?_ ?_
  · exact ⟨0, rfl, rfl, Nat.zero_le _, fun j hj => absurd hj (Nat.not_lt_zero j)⟩
  intro vi vr L hJ
  obtain ⟨i, rfl, rfl, hil, hall⟩ := hJ
  try dsimp only [setd, setn, ev, nth, over, cl, eI, eP, eT, eR, setM, setF, List.map, List.append, List.drop, List.take]
  refine K.seq ?_
  refine sr ?_
  iterate 2 refine qm ?_
  refine qp (K.len_s sT_9 rfl) ?_
  refine qp (K.lss rfl rfl) ?_
  refine sn ?_
  refine K.cond rfl (fun ht21 => ?_) (fun ht21 => ?_)
  · try replace ht21 := of_decide_eq_true ht21
    have hi : i < s.size := by omega
    refine K.skip ?_
    refine K.norm_then ?_
    refine K.seq ?_
    refine K.block ?_
    refine sr ?_
    iterate 2 refine qm ?_
    refine K.seq_pure (K.index_s (m := _) sT_9 rfl rfl rfl (by omega)) rfl ?_
    refine zN ?_
    refine qp (K.lss rfl rfl) ?_
    refine qm ?_
    refine K.split 28 rfl (fun hg28 => ?_) (fun hg28 => ?_)
    · try replace hg28 := of_decide_eq_true hg28
      iterate 4 refine qs ?_
      refine qp (K.pick_t rfl) ?_
      iterate 3 refine qm ?_
      refine K.seq_pure (K.index_s (m := _) sT_9 rfl rfl rfl (by omega)) rfl ?_
      refine zN ?_
      refine qp (K.lss rfl rfl) ?_
      refine qm ?_
      refine K.split 39 rfl (fun hg39 => ?_) (fun hg39 => ?_)
      · try replace hg39 := of_decide_eq_true hg39
        iterate 4 refine qs ?_
        refine qp (K.pick_t rfl) ?_
        refine qp (K.pick_t rfl) ?_
        iterate 3 refine qm ?_
        refine K.seq_pure (K.index_s (m := _) sT_9 rfl rfl rfl (by omega)) rfl ?_
        refine zN ?_
        refine qp (K.neq rfl rfl) ?_
        refine qp (K.pick_t rfl) ?_
        refine sn ?_
        refine K.cond rfl (fun ht51 => ?_) (fun ht51 => ?_)
        · try replace ht51 := of_decide_eq_true ht51
          refine sr ?_
          refine qa ?_
          refine sn ?_
          refine K.ret ?_
          refine K.ret_block ?_
          refine K.ret_then ?_
          refine K.ret_then ?_
          refine K.ret_block ?_
          refine K.ret_then ?_
          refine K.end_ret (fun w _ => K.res_tmp rfl w) ?_
          first
            | exact absurd ht51 (by decide)
            | exact K.gives_b rfl (name_f2 hi (ok_f (by omega))).symm
        try replace ht51 := of_decide_eq_false ht51
        refine K.skip ?_
        refine K.norm_block ?_
        refine K.norm_then ?_
        refine K.region_lit ?_
        refine qm ?_
        refine qp (K.add_i64 rfl rfl (by omega)) ?_
        refine qa ?_
        refine K.seq_nil ?_
        have hc : okC i (K.bt s i) = true := by
          first
            | exact absurd ht51 (by decide)
            | (rcases Nat.eq_zero_or_pos i with h0 | h0 <;> first | exact ok_t (by omega) | (subst h0; exact ok_t (by omega)))
        exact K.round_endW (L'' := []) [.int .i64 ((i : Int) + 1)] ⟨i + 1, rfl, rfl, by omega, K.lt_succ_case hall hc⟩ (by simp [K.nth, intOf]; omega) (List.Sublist.refl _) (by kernel_rfl)
      try replace hg39 := of_decide_eq_false hg39
      iterate 2 refine qm ?_
      refine K.seq_pure (K.index_s (m := _) sT_9 rfl rfl rfl (by omega)) rfl ?_
      refine zN ?_
      refine qp (K.gtr rfl rfl) ?_
      refine qp (K.pick_f rfl) ?_
      refine qp (K.pick_t rfl) ?_
      refine qm ?_
      refine K.split 46 rfl (fun hg46 => ?_) (fun hg46 => ?_)
      · try replace hg46 := of_decide_eq_true hg46
        iterate 2 refine qm ?_
        refine K.seq_pure (K.index_s (m := _) sT_9 rfl rfl rfl (by omega)) rfl ?_
        refine zN ?_
        refine qp (K.neq rfl rfl) ?_
        refine qp (K.pick_t rfl) ?_
        refine sn ?_
        refine K.cond rfl (fun ht51 => ?_) (fun ht51 => ?_)
        · try replace ht51 := of_decide_eq_true ht51
          refine sr ?_
          refine qa ?_
          refine sn ?_
          refine K.ret ?_
          refine K.ret_block ?_
          refine K.ret_then ?_
          refine K.ret_then ?_
          refine K.ret_block ?_
          refine K.ret_then ?_
          refine K.end_ret (fun w _ => K.res_tmp rfl w) ?_
          first
            | exact absurd ht51 (by decide)
            | exact K.gives_b rfl (name_f2 hi (ok_f (by omega))).symm
        try replace ht51 := of_decide_eq_false ht51
        refine K.skip ?_
        refine K.norm_block ?_
        refine K.norm_then ?_
        refine K.region_lit ?_
        refine qm ?_
        refine qp (K.add_i64 rfl rfl (by omega)) ?_
        refine qa ?_
        refine K.seq_nil ?_
        have hc : okC i (K.bt s i) = true := by
          first
            | exact absurd ht51 (by decide)
            | (rcases Nat.eq_zero_or_pos i with h0 | h0 <;> first | exact ok_t (by omega) | (subst h0; exact ok_t (by omega)))
        exact K.round_endW (L'' := []) [.int .i64 ((i : Int) + 1)] ⟨i + 1, rfl, rfl, by omega, K.lt_succ_case hall hc⟩ (by simp [K.nth, intOf]; omega) (List.Sublist.refl _) (by kernel_rfl)
      try replace hg46 := of_decide_eq_false hg46
      iterate 4 refine qs ?_
      refine qp (K.pick_f rfl) ?_
      refine sn ?_
      refine K.cond_false rfl ?_
      refine K.skip ?_
      refine K.norm_block ?_
      refine K.norm_then ?_
      refine K.region_lit ?_
      refine qm ?_
      refine qp (K.add_i64 rfl rfl (by omega)) ?_
      refine qa ?_
      refine K.seq_nil ?_
      have hc : okC i (K.bt s i) = true := by
        first
          | exact absurd ht51 (by decide)
          | (rcases Nat.eq_zero_or_pos i with h0 | h0 <;> first | exact ok_t (by omega) | (subst h0; exact ok_t (by omega)))
      exact K.round_endW (L'' := []) [.int .i64 ((i : Int) + 1)] ⟨i + 1, rfl, rfl, by omega, K.lt_succ_case hall hc⟩ (by simp [K.nth, intOf]; omega) (List.Sublist.refl _) (by kernel_rfl)
    try replace hg28 := of_decide_eq_false hg28
    iterate 2 refine qm ?_
    refine K.seq_pure (K.index_s (m := _) sT_9 rfl rfl rfl (by omega)) rfl ?_
    refine zN ?_
    refine qp (K.gtr rfl rfl) ?_
    refine qp (K.pick_f rfl) ?_
    refine qm ?_
    refine K.split 34 rfl (fun hg34 => ?_) (fun hg34 => ?_)
    · try replace hg34 := of_decide_eq_true hg34
      iterate 2 refine qm ?_
      refine K.seq_pure (K.index_s (m := _) sT_9 rfl rfl rfl (by omega)) rfl ?_
      refine zN ?_
      refine qp (K.lss rfl rfl) ?_
      refine qm ?_
      refine K.split 39 rfl (fun hg39 => ?_) (fun hg39 => ?_)
      · try replace hg39 := of_decide_eq_true hg39
        iterate 4 refine qs ?_
        refine qp (K.pick_t rfl) ?_
        refine qp (K.pick_t rfl) ?_
        iterate 3 refine qm ?_
        refine K.seq_pure (K.index_s (m := _) sT_9 rfl rfl rfl (by omega)) rfl ?_
        refine zN ?_
        refine qp (K.neq rfl rfl) ?_
        refine qp (K.pick_t rfl) ?_
        refine sn ?_
        refine K.cond rfl (fun ht51 => ?_) (fun ht51 => ?_)
        · try replace ht51 := of_decide_eq_true ht51
          refine sr ?_
          refine qa ?_
          refine sn ?_
          refine K.ret ?_
          refine K.ret_block ?_
          refine K.ret_then ?_
          refine K.ret_then ?_
          refine K.ret_block ?_
          refine K.ret_then ?_
          refine K.end_ret (fun w _ => K.res_tmp rfl w) ?_
          first
            | exact absurd ht51 (by decide)
            | exact K.gives_b rfl (name_f2 hi (ok_f (by omega))).symm
        try replace ht51 := of_decide_eq_false ht51
        refine K.skip ?_
        refine K.norm_block ?_
        refine K.norm_then ?_
        refine K.region_lit ?_
        refine qm ?_
        refine qp (K.add_i64 rfl rfl (by omega)) ?_
        refine qa ?_
        refine K.seq_nil ?_
        have hc : okC i (K.bt s i) = true := by
          first
            | exact absurd ht51 (by decide)
            | (rcases Nat.eq_zero_or_pos i with h0 | h0 <;> first | exact ok_t (by omega) | (subst h0; exact ok_t (by omega)))
        exact K.round_endW (L'' := []) [.int .i64 ((i : Int) + 1)] ⟨i + 1, rfl, rfl, by omega, K.lt_succ_case hall hc⟩ (by simp [K.nth, intOf]; omega) (List.Sublist.refl _) (by kernel_rfl)
      try replace hg39 := of_decide_eq_false hg39
      iterate 2 refine qm ?_
      refine K.seq_pure (K.index_s (m := _) sT_9 rfl rfl rfl (by omega)) rfl ?_
      refine zN ?_
      refine qp (K.gtr rfl rfl) ?_
      refine qp (K.pick_f rfl) ?_
      refine qp (K.pick_t rfl) ?_
      refine qm ?_
      refine K.split 46 rfl (fun hg46 => ?_) (fun hg46 => ?_)
      · try replace hg46 := of_decide_eq_true hg46
        iterate 2 refine qm ?_
        refine K.seq_pure (K.index_s (m := _) sT_9 rfl rfl rfl (by omega)) rfl ?_
        refine zN ?_
        refine qp (K.neq rfl rfl) ?_
        refine qp (K.pick_t rfl) ?_
        refine sn ?_
        refine K.cond rfl (fun ht51 => ?_) (fun ht51 => ?_)
        · try replace ht51 := of_decide_eq_true ht51
          refine sr ?_
          refine qa ?_
          refine sn ?_
          refine K.ret ?_
          refine K.ret_block ?_
          refine K.ret_then ?_
          refine K.ret_then ?_
          refine K.ret_block ?_
          refine K.ret_then ?_
          refine K.end_ret (fun w _ => K.res_tmp rfl w) ?_
          first
            | exact absurd ht51 (by decide)
            | exact K.gives_b rfl (name_f2 hi (ok_f (by omega))).symm
        try replace ht51 := of_decide_eq_false ht51
        refine K.skip ?_
        refine K.norm_block ?_
        refine K.norm_then ?_
        refine K.region_lit ?_
        refine qm ?_
        refine qp (K.add_i64 rfl rfl (by omega)) ?_
        refine qa ?_
        refine K.seq_nil ?_
        have hc : okC i (K.bt s i) = true := by
          first
            | exact absurd ht51 (by decide)
            | (rcases Nat.eq_zero_or_pos i with h0 | h0 <;> first | exact ok_t (by omega) | (subst h0; exact ok_t (by omega)))
        exact K.round_endW (L'' := []) [.int .i64 ((i : Int) + 1)] ⟨i + 1, rfl, rfl, by omega, K.lt_succ_case hall hc⟩ (by simp [K.nth, intOf]; omega) (List.Sublist.refl _) (by kernel_rfl)
      try replace hg46 := of_decide_eq_false hg46
      iterate 4 refine qs ?_
      refine qp (K.pick_f rfl) ?_
      refine sn ?_
      refine K.cond_false rfl ?_
      refine K.skip ?_
      refine K.norm_block ?_
      refine K.norm_then ?_
      refine K.region_lit ?_
      refine qm ?_
      refine qp (K.add_i64 rfl rfl (by omega)) ?_
      refine qa ?_
      refine K.seq_nil ?_
      have hc : okC i (K.bt s i) = true := by
        first
          | exact absurd ht51 (by decide)
          | (rcases Nat.eq_zero_or_pos i with h0 | h0 <;> first | exact ok_t (by omega) | (subst h0; exact ok_t (by omega)))
      exact K.round_endW (L'' := []) [.int .i64 ((i : Int) + 1)] ⟨i + 1, rfl, rfl, by omega, K.lt_succ_case hall hc⟩ (by simp [K.nth, intOf]; omega) (List.Sublist.refl _) (by kernel_rfl)
    try replace hg34 := of_decide_eq_false hg34
    iterate 10 refine qs ?_
    refine qp (K.pick_f rfl) ?_
    refine qm ?_
    iterate 4 refine qs ?_
    refine qp (K.pick_f rfl) ?_
    refine sn ?_
    refine K.cond_false rfl ?_
    refine K.skip ?_
    refine K.norm_block ?_
    refine K.norm_then ?_
    refine K.region_lit ?_
    refine qm ?_
    refine qp (K.add_i64 rfl rfl (by omega)) ?_
    refine qa ?_
    refine K.seq_nil ?_
    have hc : okC i (K.bt s i) = true := by
      first
        | exact absurd ht51 (by decide)
        | (rcases Nat.eq_zero_or_pos i with h0 | h0 <;> first | exact ok_t (by omega) | (subst h0; exact ok_t (by omega)))
    exact K.round_endW (L'' := []) [.int .i64 ((i : Int) + 1)] ⟨i + 1, rfl, rfl, by omega, K.lt_succ_case hall hc⟩ (by simp [K.nth, intOf]; omega) (List.Sublist.refl _) (by kernel_rfl)
  try replace ht21 := of_decide_eq_false ht21
  refine K.exit ?_
  refine K.exit_then ?_
  refine K.exit_then ?_
  refine K.exit_here ?_
  refine K.norm_then ?_
  refine sr ?_
  refine qa ?_
  refine sn ?_
  refine K.ret ?_
  refine K.end_ret (fun w _ => K.res_tmp rfl w) ?_
  exact K.gives_b rfl (name_t (by omega) (fun i hi => hall i (by omega))).symm

set_option maxRecDepth 100000 in
theorem c83 {A : Option Addr} {c : Nat} {l : List ByteArray} {s : ByteArray} {w : World} (hX : K.Rd w A 1 eB l) (hn : l.length ≤ 4611686018427387904) :
    Calls Tryz.prog 50 [.slice A l.length c, .string s].toArray w (K.Gives (.int .i64 (K.idx (fun q => nmEq q s) l)) w) := by
  refine K.enter (args := [.slice A l.length c, .string s]) Tryz.func50 rfl (n := 17) rfl ?_
  simp only [List.replicate, List.cons_append, List.nil_append]
  refine sr ?_
  refine qa ?_
  refine sn ?_
  refine K.seq ?_
  refine sr ?_
  refine qa ?_
  refine sn ?_
  refine K.block ?_
  refine K.loopW [5] [4, 6, 7, 8, 9, 10, 11, 12, 13, 14, 15, 16, 17, 18] (fun vi L => ∃ k : Nat, vi = [.int .i64 (k : Int)] ∧ L = [] ∧ k ≤ l.length ∧ ∀ j, j < k → (fun q => nmEq q s) (l.getD j default) = false) (fun vi => l.length - (intOf (K.nth vi 0)).toNat) ?_ ?_
  · exact ⟨0, rfl, rfl, Nat.zero_le _, fun j hj => absurd hj (Nat.not_lt_zero j)⟩
  intro vi vr L hJ
  obtain ⟨k, rfl, rfl, hkn, hall⟩ := hJ
  try dsimp only [setd, setn, ev, nth, over, cl, eI, eP, eT, eR, setM, setF, List.map, List.append, List.drop, List.take]
  refine K.seq ?_
  refine sr ?_
  iterate 2 refine qm ?_
  refine qp (K.len_sl sl_47 rfl) ?_
  refine qp (K.lss rfl rfl) ?_
  refine sn ?_
  refine K.cond rfl (fun ht9 => ?_) (fun ht9 => ?_)
  · try replace ht9 := of_decide_eq_true ht9
    have hk : k < l.length := by omega
    refine K.skip ?_
    refine K.norm_then ?_
    refine K.seq ?_
    refine K.block ?_
    refine sr ?_
    iterate 2 refine qm ?_
    refine K.seq_ix (M := []) _ hX.sl sl_47 rfl rfl rfl (by omega) rfl ?_
    intro p14 hp14
    refine zN ?_
    refine K.seq_sil (K.load1 one_9 rfl (hp14.any)) rfl ?_
    refine zN ?_
    refine qm ?_
    refine qp (K.eql_s rfl rfl) ?_
    refine sn ?_
    refine K.cond rfl (fun ht17 => ?_) (fun ht17 => ?_)
    · try replace ht17 := of_decide_eq_true ht17
      refine sr ?_
      refine qm ?_
      refine qa ?_
      refine sn ?_
      refine K.ret ?_
      refine K.ret_block ?_
      refine K.ret_then ?_
      refine K.ret_then ?_
      refine K.ret_block ?_
      refine K.ret_then ?_
      refine K.end_ret (fun w _ => K.res_tmp rfl w) ?_
      exact K.gives_i rfl (K.idx_found (p := fun q => nmEq q s) hk hall ht17).symm
    try replace ht17 := of_decide_eq_false ht17
    refine K.skip ?_
    refine K.norm_block ?_
    refine K.norm_then ?_
    refine K.region_lit ?_
    refine qm ?_
    refine qp (K.add_i64 rfl rfl (by omega)) ?_
    refine qa ?_
    refine K.seq_nil ?_
    exact K.round_endW [.int .i64 ((k : Int) + 1)] ⟨k + 1, rfl, rfl, by omega, K.lt_succ_case hall ht17⟩ (by simp [K.nth, intOf]; omega) (List.Sublist.refl _) (by kernel_rfl)
  try replace ht9 := of_decide_eq_false ht9
  refine K.exit ?_
  refine K.exit_then ?_
  refine K.exit_then ?_
  refine K.exit_here ?_
  refine K.norm_then ?_
  refine sr ?_
  refine qa ?_
  refine sn ?_
  refine K.ret ?_
  refine K.end_ret (fun w _ => K.res_tmp rfl w) ?_
  exact K.gives_i rfl (K.idx_none (fun j hj => hall j (by omega))).symm

set_option maxRecDepth 100000 in
theorem c50 {A : Option Addr} {c : Nat} {l : List ByteArray} {s : ByteArray} {w : World} (hX : K.Rd w A 1 eB l) (hn : l.length ≤ 4611686018427387904) :
    Calls Tryz.prog 16 [.string s, .slice A l.length c].toArray w (K.Gives (.int .i64 (freshE s l)) w) := by
  refine K.enter (args := [.string s, .slice A l.length c]) Tryz.func16 rfl (n := 10) rfl ?_
  simp only [List.replicate, List.cons_append, List.nil_append]
  refine sr ?_
  refine qa ?_
  refine sn ?_
  refine K.seq ?_
  refine sr ?_
  refine qm ?_
  refine K.seq_call (K.call_g cal_49 (fun F w hF hw => c82 w)) rfl ?_
  refine zN ?_
  first | refine K.seq_pure (K.not_d rfl) rfl ?_ | refine K.seq_pure (K.not_ rfl) rfl ?_
  refine zN ?_
  refine sn ?_
  refine K.cond rfl (fun ht7 => ?_) (fun ht7 => ?_)
  · try replace ht7 := of_decide_eq_true ht7
    refine sr ?_
    refine qa ?_
    refine sn ?_
    refine K.ret ?_
    refine K.ret_then ?_
    refine K.end_ret (fun w _ => K.res_tmp rfl w) ?_
    exact K.gives_i rfl (by unfold freshE; rw [if_pos (by simpa using ht7)])
  try replace ht7 := of_decide_eq_false ht7
  refine K.skip ?_
  refine K.norm_then ?_
  refine K.seq ?_
  refine sr ?_
  iterate 2 refine qm ?_
  refine K.seq_call (K.call_g cal_50 (fun F w hF hw => c83 (hX.pass hw) hn)) rfl ?_
  refine zN ?_
  refine qp (K.Pure.eq (K.geq rfl rfl) (show _ = Value.bool (l.any fun q => nmEq q s) from by rw [K.idx_ge])) ?_
  refine sn ?_
  refine K.cond rfl (fun ht11 => ?_) (fun ht11 => ?_)
  · try replace ht11 := of_decide_eq_true ht11
    refine sr ?_
    refine qa ?_
    refine sn ?_
    refine K.ret ?_
    refine K.ret_then ?_
    refine K.end_ret (fun w _ => K.res_tmp rfl w) ?_
    exact K.gives_i rfl (by unfold freshE; rw [if_neg (by simpa using ht7), if_pos ht11])
  try replace ht11 := of_decide_eq_false ht11
  refine K.skip ?_
  refine K.norm_then ?_
  refine sr ?_
  refine qa ?_
  refine sn ?_
  refine K.ret ?_
  refine K.end_ret (fun w _ => K.res_tmp rfl w) ?_
  exact K.gives_i rfl (by unfold freshE; rw [if_neg (by simpa using ht7), if_neg (by simpa using ht11)])

end Go.Proofs.YtekkpcpbnonkaaaGreatDoor.Rv
end
section
set_option linter.unusedSimpArgs false
set_option linter.unusedVariables false
namespace Go.Proofs.YtekkpcpbnonkaaaGreatDoor.Rv
open Go.RowKit Go
open Go.K (setd setn ev nth over cl eI eP eT setM setF)
attribute [local irreducible] K.blk K.row
theorem laidOut : laidOutB Tryz.prog = true := by kernel_rfl
theorem ulN : Tryz.prog.underlying 136 = some (.map 9 3) := by kernel_rfl
set_option maxRecDepth 100000 in
theorem mapN : K.MapT Tryz.prog 136 9 := ⟨⟨3, ulN, fun w => by kernel_rfl⟩, WideMaps.string_law Tryz.underlying9⟩
theorem keyN {s : ByteArray} (h : s.size ≤ 16) : ∃ q, keyOf Tryz.prog 9 (.string s) = some q := ⟨_, WideMaps.keyOf_string_mk Tryz.underlying9 (by unfold maxLen; omega)⟩
theorem keyNs {r : List RvT} {k : Nat} (hk : k ≤ r.length) (hall : ∀ j, j < k → rvE r j = 0) : ∀ p ∈ kvS r k, ∃ q, keyOf Tryz.prog 9 p.1 = some q := fun p hp => by
  obtain ⟨s, rfl, hs⟩ := kv_nm hk hall hp
  exact keyN hs
theorem keyPut {kvs kvs' : List (Value × Int)} {key : Value} {v : Int} (hk : ∃ q, keyOf Tryz.prog 9 key = some q) (hks : ∀ p ∈ kvs, ∃ q, keyOf Tryz.prog 9 p.1 = some q) (h : K.PutQ kvs key v kvs') : ∀ p ∈ kvs', ∃ q, keyOf Tryz.prog 9 p.1 = some q := fun p hp => by
  rcases h with ⟨_, rfl⟩ | ⟨j, n, _, rfl⟩
  · rcases List.mem_append.1 hp with h | h
    · exact hks p h
    · simp at h; subst h; exact hk
  · rcases List.mem_or_eq_of_mem_set hp with h | h
    · exact hks p h
    · subst h; exact hk

theorem kv_bd {r : List RvT} {k : Nat} : ∀ p ∈ kvS r k, 1 ≤ p.2 ∧ p.2 ≤ 1000 := fun p hp => by
  obtain ⟨q, _, rfl⟩ := kv_at hp
  exact ⟨show (1 : Int) ≤ 1 by decide, show (1 : Int) ≤ 1000 by decide⟩

set_option maxRecDepth 100000 in
theorem c47 {s : ByteArray} {kvs : List (Value × Int)} {b : Nat} {T : List K.Chunk} {w0 w : World} (hst : K.St w0 (K.mq b none kvs :: T) w) (hko : ∀ p ∈ kvs, ∃ q, keyOf Tryz.prog 9 p.1 = some q) (hs : s.size ≤ 16) (hv : ∀ p ∈ kvs, 1 ≤ p.2 ∧ p.2 ≤ 1000) (hd : (kvs.map (·.1)).Nodup) :
    Calls Tryz.prog 74 [.map (some b), .string s].toArray w (K.RetU (MetOk kvs s) (fun p => .int .i64 p.1) w0 (fun p => K.mq b none p.2 :: T)) := by
  refine K.enterU (args := [.map (some b), .string s]) Tryz.func74 rfl (n := 10) rfl hst ?_
  simp only [List.replicate, List.cons_append, List.nil_append]
  refine sr ?_
  refine qa ?_
  refine sn ?_
  refine sr ?_
  iterate 2 refine qm ?_
  refine K.seq_loud (K.lookup_mq mapN rfl rfl (K.m0) (keyN hs) hko) rfl ?_
  rintro n7 hn7
  refine zN ?_
  have hb7 : 0 ≤ n7 ∧ n7 ≤ 1000 := by
    rcases hn7 with h | h
    · omega
    · have := hv _ h; simp only at this; omega
  refine zN ?_
  refine qp (K.add_i64 rfl rfl (by omega)) ?_
  refine K.seq_upd (K.mapUpdate_mq mapN rfl rfl rfl (keyN hs) hko (fun _ => K.rp0)) rfl ?_
  rintro kvs4 hput4
  refine zN ?_
  refine sn ?_
  refine sr ?_
  iterate 2 refine qm ?_
  refine K.seq_loud (K.lookup_mq mapN rfl rfl (K.m0) (keyN hs) (keyPut (keyN hs) hko hput4)) rfl ?_
  rintro n11 hn11
  refine zN ?_
  refine qa ?_
  refine sn ?_
  refine K.ret ?_
  refine K.end_ret (fun w _ => K.res_tmp rfl w) ?_
  exact K.retsU (n11, kvs4) (met_ok (fun p hp => (hv p hp).1) hd hn7 hput4 hn11) rfl (List.Sublist.refl _)

set_option maxRecDepth 100000 in
theorem c51 {r : List RvT} {A : Option Addr} {c : Nat} {i : Nat} {w : World} (hR : K.Rd w A 4 eR r) (hn : r.length ≤ 4611686018427387904) (hi : i < r.length) :
    Calls Tryz.prog 17 [.slice A r.length c, .int .i64 (i : Int)].toArray w (K.Gives (.int .i64 (posE r.length i (r.getD i default))) w) := by
  refine K.enter (args := [.slice A r.length c, .int .i64 (i : Int)]) Tryz.func17 rfl (n := 39) rfl ?_
  simp only [List.replicate, List.cons_append, List.nil_append]
  refine sr ?_
  refine qa ?_
  refine sn ?_
  refine sr ?_
  iterate 2 refine qm ?_
  refine K.seq_ix (M := []) _ hR.sl sl_22 rfl rfl rfl (by omega) rfl ?_
  intro p8 hp8
  refine zN ?_
  refine K.seq_sil (K.loadA_p ag_34 rfl (hp8.any) rfl) rfl ?_
  refine zN ?_
  refine K.seq_new (K.alloc zr_34) rfl ?_
  intro b5
  refine zN ?_
  refine K.seq_st (K.store_all sz_34 rfl rfl rfl rfl (K.rp0)) rfl ?_
  refine zN ?_
  refine sn ?_
  refine K.seq ?_
  refine sr ?_
  refine qp (K.fieldAddr_lit fo_34_2 rfl) ?_
  refine K.seq_sil (K.load1_own one_3 rfl (K.m0) rfl) rfl ?_
  refine zN ?_
  refine K.seq_call (K.call_g cal_15 (fun F w hF hw => c49 w)) rfl ?_
  refine zN ?_
  first | refine K.seq_pure (K.not_d rfl) rfl ?_ | refine K.seq_pure (K.not_ rfl) rfl ?_
  refine zN ?_
  refine qm ?_
  refine K.split 14 rfl (fun hg14 => ?_) (fun hg14 => ?_)
  · try replace hg14 := of_decide_eq_true hg14
    iterate 4 refine qs ?_
    refine qp (K.pick_t rfl) ?_
    refine sn ?_
    refine K.cond_true rfl ?_
    refine sr ?_
    refine qa ?_
    refine sn ?_
    refine K.ret ?_
    refine K.ret_then ?_
    refine K.end_ret (fun w _ => K.res_tmp rfl w) ?_
    exact K.gives_i rfl (pos_7 (by omega)).symm
  try replace hg14 := of_decide_eq_false hg14
  refine qp (K.fieldAddr_lit fo_34_3 rfl) ?_
  refine K.seq_sil (K.load1_own one_3 rfl (K.m0) rfl) rfl ?_
  refine zN ?_
  refine K.seq_call (K.call_g cal_15 (fun F w hF hw => c49 w)) rfl ?_
  refine zN ?_
  first | refine K.seq_pure (K.not_d rfl) rfl ?_ | refine K.seq_pure (K.not_ rfl) rfl ?_
  refine zN ?_
  refine qp (K.pick_f rfl) ?_
  refine sn ?_
  refine K.cond rfl (fun ht19 => ?_) (fun ht19 => ?_)
  · try replace ht19 := of_decide_eq_true ht19
    refine sr ?_
    refine qa ?_
    refine sn ?_
    refine K.ret ?_
    refine K.ret_then ?_
    refine K.end_ret (fun w _ => K.res_tmp rfl w) ?_
    exact K.gives_i rfl (pos_7 (by omega)).symm
  try replace ht19 := of_decide_eq_false ht19
  refine K.skip ?_
  refine K.norm_then ?_
  refine K.seq ?_
  refine sr ?_
  refine qp (K.fieldAddr_lit fo_34_1 rfl) ?_
  refine K.seq_sil (K.load1_own one_3 rfl (K.m0) rfl) rfl ?_
  refine zN ?_
  refine qm ?_
  refine qp (K.len_sl sl_22 rfl) ?_
  refine qp (K.sub_i64 rfl rfl (by omega)) ?_
  refine K.seq_call (K.call_g cal_15 (fun F w hF hw => c49 w)) rfl ?_
  refine zN ?_
  first | refine K.seq_pure (K.not_d rfl) rfl ?_ | refine K.seq_pure (K.not_ rfl) rfl ?_
  refine zN ?_
  refine sn ?_
  refine K.cond rfl (fun ht26 => ?_) (fun ht26 => ?_)
  · try replace ht26 := of_decide_eq_true ht26
    refine sr ?_
    refine qa ?_
    refine sn ?_
    refine K.ret ?_
    refine K.ret_then ?_
    refine K.end_ret (fun w _ => K.res_tmp rfl w) ?_
    exact K.gives_i rfl (pos_4 (by omega) (by omega)).symm
  try replace ht26 := of_decide_eq_false ht26
  refine K.skip ?_
  refine K.norm_then ?_
  refine K.seq ?_
  refine sr ?_
  refine qp (K.fieldAddr_lit fo_34_1 rfl) ?_
  refine K.seq_sil (K.load1_own one_3 rfl (K.m0) rfl) rfl ?_
  refine zN ?_
  refine qm ?_
  refine qp (K.eql rfl rfl) ?_
  refine qm ?_
  refine K.split 31 rfl (fun hg31 => ?_) (fun hg31 => ?_)
  · try replace hg31 := of_decide_eq_true hg31
    iterate 8 refine qs ?_
    refine qp (K.pick_t rfl) ?_
    refine sn ?_
    refine K.cond_true rfl ?_
    refine sr ?_
    refine qa ?_
    refine sn ?_
    refine K.ret ?_
    refine K.ret_then ?_
    refine K.end_ret (fun w _ => K.res_tmp rfl w) ?_
    exact K.gives_i rfl (pos_2 (by omega) (by omega) (by omega)).symm
  try replace hg31 := of_decide_eq_false hg31
  refine qp (K.fieldAddr_lit fo_34_1 rfl) ?_
  refine K.seq_sil (K.load1_own one_3 rfl (K.m0) rfl) rfl ?_
  refine zN ?_
  refine qp (K.eql rfl rfl) ?_
  refine qm ?_
  refine K.split 35 rfl (fun hg35 => ?_) (fun hg35 => ?_)
  · try replace hg35 := of_decide_eq_true hg35
    refine qp (K.fieldAddr_lit fo_34_2 rfl) ?_
    refine K.seq_sil (K.load1_own one_3 rfl (K.m0) rfl) rfl ?_
    refine zN ?_
    refine qp (K.neq rfl rfl) ?_
    refine qp (K.pick_t rfl) ?_
    refine qp (K.pick_f rfl) ?_
    refine sn ?_
    refine K.cond rfl (fun ht40 => ?_) (fun ht40 => ?_)
    · try replace ht40 := of_decide_eq_true ht40
      refine sr ?_
      refine qa ?_
      refine sn ?_
      refine K.ret ?_
      refine K.ret_then ?_
      refine K.end_ret (fun w _ => K.res_tmp rfl w) ?_
      exact K.gives_i rfl (pos_2 (by omega) (by omega) (by omega)).symm
    try replace ht40 := of_decide_eq_false ht40
    refine K.skip ?_
    refine K.norm_then ?_
    refine sr ?_
    refine qa ?_
    refine sn ?_
    refine K.ret ?_
    refine K.end_ret (fun w _ => K.res_tmp rfl w) ?_
    exact K.gives_i rfl (pos_0 (by omega) (by omega) (by omega)).symm
  try replace hg35 := of_decide_eq_false hg35
  iterate 3 refine qs ?_
  refine qp (K.pick_f rfl) ?_
  refine qp (K.pick_f rfl) ?_
  refine sn ?_
  refine K.cond_false rfl ?_
  refine K.skip ?_
  refine K.norm_then ?_
  refine sr ?_
  refine qa ?_
  refine sn ?_
  refine K.ret ?_
  refine K.end_ret (fun w _ => K.res_tmp rfl w) ?_
  exact K.gives_i rfl (pos_0 (by omega) (by omega) (by omega)).symm

theorem mou_g {z : List Nat} {k : Nat} (h : z.length ≠ 1) : (z ++ [k]).getD 1 0 = z.getD 1 0 := by
  match z, h with
  | [], _ => rfl
  | [_], h => exact absurd rfl h
  | _ :: _ :: _, _ => rfl


set_option maxRecDepth 100000 in
set_option maxHeartbeats 1000000 in
theorem c14 {r : List RvT} {A : Option Addr} {c : Nat} {w : World} (hR : K.Rd w A 4 eR r) (hn : r.length ≤ 4611686018427387904) :
    Calls Tryz.prog 35 [.slice A r.length c].toArray w (K.Gives (K.tup3 (chk r)) w) := by
  refine K.enter (args := [.slice A r.length c]) Tryz.func35 rfl (n := 120) rfl ?_
  simp only [List.replicate, List.cons_append, List.nil_append]
  refine sr ?_
  iterate 3 refine qa ?_
  refine sn ?_
  refine K.seq ?_
  refine sr ?_
  refine qm ?_
  refine qp (K.len_sl sl_22 rfl) ?_
  refine K.seq_new (K.buildSlice (bs1 _)) rfl ?_
  intro b14
  refine zN ?_
  refine K.seq_call (K.call_g cal_64 (fun F w hF hw => c46_1 hw (hF _ (K.m0)))) rfl ?_
  refine zN ?_
  refine sn ?_
  refine K.cond rfl (fun ht15 => ?_) (fun ht15 => ?_)
  · try replace ht15 := of_decide_eq_true ht15
    refine sr ?_
    iterate 3 refine qa ?_
    refine sn ?_
    refine K.ret ?_
    refine K.ret_then ?_
    refine K.end_ret (fun w _ => K.res_ttt rfl w) ?_
    exact K.gives (by rw [chk_1 (by omega)]; rfl)
  try replace ht15 := of_decide_eq_false ht15
  refine K.skip ?_
  refine K.norm_then ?_
  refine sr ?_
  refine K.seq_new (K.mkMap_q) rfl ?_
  intro b16
  refine zN ?_
  refine K.seq_pure (K.mkFunc) rfl ?_
  refine zN ?_
  refine qa ?_
  refine sn ?_
  refine sr ?_
  refine qa ?_
  refine sn ?_
  refine sr ?_
  refine qa ?_
  refine sn ?_
  refine K.seq ?_
  refine K.seq ?_
  refine K.weak (List.Sublist.cons_cons _ (List.Sublist.cons _ (List.Sublist.slnil))) ?_
  refine K.region_lit ?_
  refine qm ?_
  refine qp (K.len_sl sl_22 rfl) ?_
  refine qm ?_
  refine sn ?_
  refine K.block ?_
  refine K.loopW [6, 7, 20] [2, 3, 4, 8, 9, 21, 22, 23, 24, 25, 26, 27, 28, 29, 30, 31, 32, 33, 34, 35, 36, 37, 38, 39, 40, 41, 42, 43, 44, 45, 46, 47, 48, 49, 50, 51, 52, 53, 54, 55, 56, 57, 58, 59, 60, 61, 62, 63, 64, 65, 66, 67, 68, 69, 70, 71, 72, 73, 74, 75, 76, 77, 78, 79, 80, 81, 82, 83] (fun vi L => ∃ k : Nat, vi = [.int .i64 ((mouS r k).length : Int), .int .i64 (((mouS r k).getD 1 0 : Nat) : Int), .int .i64 ((k : Nat) : Int)] ∧ L = [K.mq b16 none (kvS r k)] ∧ k ≤ r.length ∧ ∀ j, j < k → rvE r j = 0) (fun vi => r.length - (intOf (K.nth vi 2)).toNat) ?_ ?_
  · exact ⟨0, rfl, rfl, Nat.zero_le _, fun j hj => absurd hj (Nat.not_lt_zero j)⟩
  intro vi vr L hJ
  obtain ⟨k, rfl, rfl, hkn, hall⟩ := hJ
  try dsimp only [setd, setn, ev, nth, over, cl, eI, eP, eT, eR, setM, setF, List.map, List.append, List.drop, List.take]
  refine sr ?_
  refine qp (K.lss rfl rfl) ?_
  refine sn ?_
  refine K.seq ?_
  refine K.cond rfl (fun ht21 => ?_) (fun ht21 => ?_)
  · try replace ht21 := of_decide_eq_true ht21
    have hk : k < r.length := by omega
    have hml := @mou_len r k
    refine K.skip ?_
    refine K.norm_then ?_
    refine K.seq ?_
    refine K.block ?_
    refine sr ?_
    refine qm ?_
    refine K.seq_ix (M := []) _ hR.sl sl_22 rfl rfl rfl (by omega) rfl ?_
    intro p23 hp23
    refine zN ?_
    refine K.seq_sil (K.loadA_p ag_34 rfl (hp23.any) rfl) rfl ?_
    refine zN ?_
    refine K.seq_new (K.alloc zr_34) rfl ?_
    intro b9
    refine zN ?_
    refine qa ?_
    refine K.seq_st (K.store_all sz_34 rfl rfl rfl rfl (K.rp0)) rfl ?_
    refine zN ?_
    refine sn ?_
    refine K.seq ?_
    refine K.block ?_
    refine sr ?_
    refine qp (K.fieldAddr_lit fo_34_0 rfl) ?_
    refine K.seq_sil (K.load1_own one_9 rfl (K.m0) rfl) rfl ?_
    refine zN ?_
    refine K.seq_call (K.call_g cal_75 (fun F w hF hw => c48 w)) rfl ?_
    refine zN ?_
    first | refine K.seq_pure (K.not_d rfl) rfl ?_ | refine K.seq_pure (K.not_ rfl) rfl ?_
    refine zN ?_
    refine qa ?_
    refine sn ?_
    refine K.cond rfl (fun ht25 => ?_) (fun ht25 => ?_)
    · try replace ht25 := of_decide_eq_true ht25
      have hnm : nameB (r.getD k default).nm = false := by simpa using ht25
      refine sr ?_
      refine qm ?_
      iterate 3 refine qa ?_
      refine sn ?_
      refine K.ret ?_
      refine K.ret_block ?_
      refine K.ret_then ?_
      refine K.ret_block ?_
      refine K.ret_then ?_
      refine K.ret_then ?_
      refine K.ret_block ?_
      refine K.ret_then ?_
      refine K.end_ret (fun w _ => K.res_ttt rfl w) ?_
      have hv : rvE r k = 6 := rv_6 hnm
      exact K.gives (by rw [chk_at (by omega) hk hall (by rw [hv]; decide), hv]; rfl)
    try replace ht25 := of_decide_eq_false ht25
    have hnm : nameB (r.getD k default).nm = true := by simpa using ht25
    refine sr ?_
    refine K.permH (L' := [_, _]) (List.Perm.trans (List.perm_middle (l₁ := [_])) (List.Perm.cons _ (List.Perm.refl _))) ?_
    refine qm ?_
    refine qp (K.fieldAddr_lit fo_34_0 rfl) ?_
    refine K.seq_sil (K.load1_own one_9 rfl (K.m1) rfl) rfl ?_
    refine zN ?_
    refine K.seq_upd (K.callU (first := [.map (some b16)]) (cap := []) rfl cal_47 (fun w hw => c47 hw (keyNs (by omega) hall) (nm_size hnm) (kv_bd) (kv_nd (by omega) hall))) rfl ?_
    rintro ⟨n35, kv35⟩ hm35
    refine zN ?_
    refine qp (K.gtr rfl rfl) ?_
    refine qa ?_
    refine sn ?_
    refine K.cond rfl (fun ht31 => ?_) (fun ht31 => ?_)
    · try replace ht31 := of_decide_eq_true ht31
      have hdu : ((r.take k).any fun q => nmEq q.nm (r.getD k default).nm) = true := by
        rcases hm35 with ⟨_, h, _⟩ | ⟨h, _⟩
        · simp only at h; omega
        · exact kv_dup.1 h
      refine sr ?_
      refine qm ?_
      iterate 3 refine qa ?_
      refine sn ?_
      refine K.ret ?_
      refine K.ret_block ?_
      refine K.ret_then ?_
      refine K.ret_block ?_
      refine K.ret_then ?_
      refine K.ret_then ?_
      refine K.ret_block ?_
      refine K.ret_then ?_
      refine K.end_ret (fun w _ => K.res_ttt rfl w) ?_
      have hv : rvE r k = 5 := rv_5 hnm hdu
      exact K.gives (by rw [chk_at (by omega) hk hall (by rw [hv]; decide), hv]; rfl)
    try replace ht31 := of_decide_eq_false ht31
    obtain ⟨hfr, hkv⟩ : ((r.take k).any fun q => nmEq q.nm (r.getD k default).nm) = false ∧ kv35 = kvS r k ++ [(Value.string (r.getD k default).nm, 1)] := by
      rcases hm35 with ⟨h, _, h2⟩ | ⟨_, h⟩
      · exact ⟨kv_fresh h, h2⟩
      · simp only at h; omega
    subst hkv
    refine sr ?_
    refine qp (K.fieldAddr_lit fo_34_2 rfl) ?_
    refine K.seq_sil (K.load1_own one_3 rfl (K.m1) rfl) rfl ?_
    refine zN ?_
    refine K.seq_new (K.buildSlice (bs1 _)) rfl ?_
    intro b41
    refine zN ?_
    refine K.seq_call (K.call_g cal_64 (fun F w hF hw => c46_1 hw (hF _ (K.m0)))) rfl ?_
    refine zN ?_
    refine qm ?_
    refine K.split 43 rfl (fun hg43 => ?_) (fun hg43 => ?_)
    · try replace hg43 := of_decide_eq_true hg43
      iterate 4 refine qs ?_
      refine qp (K.pick_t rfl) ?_
      refine qa ?_
      refine sn ?_
      refine K.cond_true rfl ?_
      refine sr ?_
      refine qm ?_
      iterate 3 refine qa ?_
      refine sn ?_
      refine K.ret ?_
      refine K.ret_block ?_
      refine K.ret_then ?_
      refine K.ret_block ?_
      refine K.ret_then ?_
      refine K.ret_then ?_
      refine K.ret_block ?_
      refine K.ret_then ?_
      refine K.end_ret (fun w _ => K.res_ttt rfl w) ?_
      have hv : rvE r k = 7 := by rw [rv_p hnm hfr]; exact pos_7 (by omega)
      exact K.gives (by rw [chk_at (by omega) hk hall (by rw [hv]; decide), hv]; rfl)
    try replace hg43 := of_decide_eq_false hg43
    refine qp (K.fieldAddr_lit fo_34_3 rfl) ?_
    refine K.seq_sil (K.load1_own one_3 rfl (K.m2) rfl) rfl ?_
    refine zN ?_
    refine K.seq_new (K.buildSlice (bs1 _)) rfl ?_
    intro b46
    refine zN ?_
    refine K.seq_call (K.call_g cal_64 (fun F w hF hw => c46_1 hw (hF _ (K.m0)))) rfl ?_
    refine zN ?_
    refine qp (K.pick_f rfl) ?_
    refine qa ?_
    refine sn ?_
    refine K.cond rfl (fun ht38 => ?_) (fun ht38 => ?_)
    · try replace ht38 := of_decide_eq_true ht38
      refine sr ?_
      refine qm ?_
      iterate 3 refine qa ?_
      refine sn ?_
      refine K.ret ?_
      refine K.ret_block ?_
      refine K.ret_then ?_
      refine K.ret_block ?_
      refine K.ret_then ?_
      refine K.ret_then ?_
      refine K.ret_block ?_
      refine K.ret_then ?_
      refine K.end_ret (fun w _ => K.res_ttt rfl w) ?_
      have hv : rvE r k = 7 := by rw [rv_p hnm hfr]; exact pos_7 (by omega)
      exact K.gives (by rw [chk_at (by omega) hk hall (by rw [hv]; decide), hv]; rfl)
    try replace ht38 := of_decide_eq_false ht38
    refine sr ?_
    refine qm ?_
    refine qp (K.len_sl sl_22 rfl) ?_
    refine qp (K.sub_i64 rfl rfl (by omega)) ?_
    refine qp (K.fieldAddr_lit fo_34_1 rfl) ?_
    refine K.seq_sil (K.load1_own one_3 rfl (K.m3) rfl) rfl ?_
    refine zN ?_
    refine K.seq_new (K.buildSlice (bs1 _)) rfl ?_
    intro b56
    refine zN ?_
    refine K.seq_call (K.call_g cal_64 (fun F w hF hw => c46_1 hw (hF _ (K.m0)))) rfl ?_
    refine zN ?_
    refine qa ?_
    refine sn ?_
    refine K.cond rfl (fun ht50 => ?_) (fun ht50 => ?_)
    · try replace ht50 := of_decide_eq_true ht50
      refine sr ?_
      refine qm ?_
      iterate 3 refine qa ?_
      refine sn ?_
      refine K.ret ?_
      refine K.ret_block ?_
      refine K.ret_then ?_
      refine K.ret_block ?_
      refine K.ret_then ?_
      refine K.ret_then ?_
      refine K.ret_block ?_
      refine K.ret_then ?_
      refine K.end_ret (fun w _ => K.res_ttt rfl w) ?_
      have hv : rvE r k = 4 := by rw [rv_p hnm hfr]; exact pos_4 (by omega) (by omega)
      exact K.gives (by rw [chk_at (by omega) hk hall (by rw [hv]; decide), hv]; rfl)
    try replace ht50 := of_decide_eq_false ht50
    refine sr ?_
    refine qp (K.fieldAddr_lit fo_34_1 rfl) ?_
    refine K.seq_sil (K.load1_own one_3 rfl (K.m4) rfl) rfl ?_
    refine zN ?_
    refine qm ?_
    refine qp (K.eql rfl rfl) ?_
    refine qm ?_
    refine K.split 64 rfl (fun hg64 => ?_) (fun hg64 => ?_)
    · try replace hg64 := of_decide_eq_true hg64
      iterate 8 refine qs ?_
      refine qp (K.pick_t rfl) ?_
      refine qa ?_
      refine sn ?_
      refine K.cond_true rfl ?_
      refine sr ?_
      refine qm ?_
      iterate 3 refine qa ?_
      refine sn ?_
      refine K.ret ?_
      refine K.ret_block ?_
      refine K.ret_then ?_
      refine K.ret_block ?_
      refine K.ret_then ?_
      refine K.ret_then ?_
      refine K.ret_block ?_
      refine K.ret_then ?_
      refine K.end_ret (fun w _ => K.res_ttt rfl w) ?_
      have hv : rvE r k = 2 := by rw [rv_p hnm hfr]; exact pos_2 (by omega) (by omega) (by omega)
      exact K.gives (by rw [chk_at (by omega) hk hall (by rw [hv]; decide), hv]; rfl)
    try replace hg64 := of_decide_eq_false hg64
    refine qp (K.fieldAddr_lit fo_34_1 rfl) ?_
    refine K.seq_sil (K.load1_own one_3 rfl (K.m4) rfl) rfl ?_
    refine zN ?_
    refine qp (K.eql rfl rfl) ?_
    refine qm ?_
    refine K.split 68 rfl (fun hg68 => ?_) (fun hg68 => ?_)
    · try replace hg68 := of_decide_eq_true hg68
      refine qp (K.fieldAddr_lit fo_34_2 rfl) ?_
      refine K.seq_sil (K.load1_own one_3 rfl (K.m4) rfl) rfl ?_
      refine zN ?_
      refine qp (K.neq rfl rfl) ?_
      refine qp (K.pick_t rfl) ?_
      refine qp (K.pick_f rfl) ?_
      refine qa ?_
      refine sn ?_
      refine K.cond rfl (fun ht59 => ?_) (fun ht59 => ?_)
      · try replace ht59 := of_decide_eq_true ht59
        refine sr ?_
        refine qm ?_
        iterate 3 refine qa ?_
        refine sn ?_
        refine K.ret ?_
        refine K.ret_block ?_
        refine K.ret_then ?_
        refine K.ret_block ?_
        refine K.ret_then ?_
        refine K.ret_then ?_
        refine K.ret_block ?_
        refine K.ret_then ?_
        refine K.end_ret (fun w _ => K.res_ttt rfl w) ?_
        have hv : rvE r k = 2 := by rw [rv_p hnm hfr]; exact pos_2 (by omega) (by omega) (by omega)
        exact K.gives (by rw [chk_at (by omega) hk hall (by rw [hv]; decide), hv]; rfl)
      try replace ht59 := of_decide_eq_false ht59
      refine K.skip ?_
      refine K.norm_block ?_
      refine K.norm_then ?_
      refine sr ?_
      refine qp (K.fieldAddr_lit fo_34_1 rfl) ?_
      refine K.seq_sil (K.load1_own one_3 rfl (K.m4) rfl) rfl ?_
      refine zN ?_
      refine qp (K.eql rfl rfl) ?_
      refine sn ?_
      refine K.cond rfl (fun ht77 => ?_) (fun ht77 => ?_)
      · try replace ht77 := of_decide_eq_true ht77
        have hrv : rvE r k = 0 := by rw [rv_p hnm hfr]; exact pos_0 (by omega) (by omega) (by omega)
        refine sr ?_
        refine qm ?_
        refine qp (K.add_i64 rfl rfl (by omega)) ?_
        refine qa ?_
        refine sn ?_
        refine sr ?_
        refine qm ?_
        refine qp (K.eql rfl rfl) ?_
        refine sn ?_
        refine K.cond rfl (fun ht81 => ?_) (fun ht81 => ?_)
        · try replace ht81 := of_decide_eq_true ht81
          refine K.region_lit ?_
          refine qm ?_
          refine qa ?_
          refine K.seq_nil ?_
          refine K.norm_block ?_
          refine K.norm_then ?_
          refine K.region_lit ?_
          refine qp (K.add_i64 rfl rfl (by omega)) ?_
          refine qm ?_
          refine K.seq_nil ?_
          have hl1 : (mouS r k).length = 1 := by omega
          have hg1 : ((mouS r (k + 1)).getD 1 0 : Nat) = k := by
            rw [mou_s ht77]
            obtain ⟨a, ha⟩ := List.length_eq_one_iff.1 hl1
            rw [ha]; rfl
          have hl2 : (((mouS r (k + 1)).length : Nat) : Int) = ((mouS r k).length : Int) + 1 := by rw [mou_s ht77, List.length_append]; rfl
          exact K.round_endW (L'' := [K.mq b16 none (kvS r k ++ [(Value.string (r.getD k default).nm, 1)])]) [.int .i64 (((mouS r k).length : Int) + 1), .int .i64 (k : Int), .int .i64 ((k : Int) + 1)] ⟨k + 1, by rw [hl2, hg1]; rfl, by rw [kv_s hk], by omega, K.lt_succ_case hall hrv⟩ (by simp [K.nth, intOf]; omega) (List.Sublist.cons _ (List.Sublist.cons _ (List.Sublist.cons _ (List.Sublist.cons_cons _ (List.nil_sublist _))))) (by kernel_rfl)
        try replace ht81 := of_decide_eq_false ht81
        refine K.skip ?_
        refine K.norm_block ?_
        refine K.norm_then ?_
        refine K.region_lit ?_
        refine qp (K.add_i64 rfl rfl (by omega)) ?_
        refine qm ?_
        refine K.seq_nil ?_
        have hg1 : ((mouS r (k + 1)).getD 1 0 : Nat) = (mouS r k).getD 1 0 := by
          rw [mou_s ht77]
          exact mou_g (by omega)
        have hl2 : (((mouS r (k + 1)).length : Nat) : Int) = ((mouS r k).length : Int) + 1 := by rw [mou_s ht77, List.length_append]; rfl
        exact K.round_endW (L'' := [K.mq b16 none (kvS r k ++ [(Value.string (r.getD k default).nm, 1)])]) [.int .i64 (((mouS r k).length : Int) + 1), .int .i64 (((mouS r k).getD 1 0 : Nat) : Int), .int .i64 ((k : Int) + 1)] ⟨k + 1, by rw [hl2, hg1]; rfl, by rw [kv_s hk], by omega, K.lt_succ_case hall hrv⟩ (by simp [K.nth, intOf]; omega) (List.Sublist.cons _ (List.Sublist.cons _ (List.Sublist.cons _ (List.Sublist.cons_cons _ (List.nil_sublist _))))) (by kernel_rfl)
      try replace ht77 := of_decide_eq_false ht77
      have hrv : rvE r k = 0 := by rw [rv_p hnm hfr]; exact pos_0 (by omega) (by omega) (by omega)
      refine K.skip ?_
      refine K.norm_block ?_
      refine K.norm_then ?_
      refine K.region_lit ?_
      refine qp (K.add_i64 rfl rfl (by omega)) ?_
      refine qm ?_
      refine K.seq_nil ?_
      have hg1 : ((mouS r (k + 1)).getD 1 0 : Nat) = (mouS r k).getD 1 0 := by rw [mou_n ht77]
      have hl2 : (((mouS r (k + 1)).length : Nat) : Int) = ((mouS r k).length : Int) := by rw [mou_n ht77]
      exact K.round_endW (L'' := [K.mq b16 none (kvS r k ++ [(Value.string (r.getD k default).nm, 1)])]) [.int .i64 ((mouS r k).length : Int), .int .i64 (((mouS r k).getD 1 0 : Nat) : Int), .int .i64 ((k : Int) + 1)] ⟨k + 1, by rw [hl2, hg1]; rfl, by rw [kv_s hk], by omega, K.lt_succ_case hall hrv⟩ (by simp [K.nth, intOf]; omega) (List.Sublist.cons _ (List.Sublist.cons _ (List.Sublist.cons _ (List.Sublist.cons_cons _ (List.nil_sublist _))))) (by kernel_rfl)
    try replace hg68 := of_decide_eq_false hg68
    iterate 3 refine qs ?_
    refine qp (K.pick_f rfl) ?_
    refine qp (K.pick_f rfl) ?_
    refine qa ?_
    refine sn ?_
    refine K.cond_false rfl ?_
    refine K.skip ?_
    refine K.norm_block ?_
    refine K.norm_then ?_
    refine sr ?_
    refine qp (K.fieldAddr_lit fo_34_1 rfl) ?_
    refine K.seq_sil (K.load1_own one_3 rfl (K.m4) rfl) rfl ?_
    refine zN ?_
    refine qp (K.eql rfl rfl) ?_
    refine sn ?_
    refine K.cond rfl (fun ht77 => ?_) (fun ht77 => ?_)
    · try replace ht77 := of_decide_eq_true ht77
      have hrv : rvE r k = 0 := by rw [rv_p hnm hfr]; exact pos_0 (by omega) (by omega) (by omega)
      refine sr ?_
      refine qm ?_
      refine qp (K.add_i64 rfl rfl (by omega)) ?_
      refine qa ?_
      refine sn ?_
      refine sr ?_
      refine qm ?_
      refine qp (K.eql rfl rfl) ?_
      refine sn ?_
      refine K.cond rfl (fun ht81 => ?_) (fun ht81 => ?_)
      · try replace ht81 := of_decide_eq_true ht81
        refine K.region_lit ?_
        refine qm ?_
        refine qa ?_
        refine K.seq_nil ?_
        refine K.norm_block ?_
        refine K.norm_then ?_
        refine K.region_lit ?_
        refine qp (K.add_i64 rfl rfl (by omega)) ?_
        refine qm ?_
        refine K.seq_nil ?_
        have hl1 : (mouS r k).length = 1 := by omega
        have hg1 : ((mouS r (k + 1)).getD 1 0 : Nat) = k := by
          rw [mou_s ht77]
          obtain ⟨a, ha⟩ := List.length_eq_one_iff.1 hl1
          rw [ha]; rfl
        have hl2 : (((mouS r (k + 1)).length : Nat) : Int) = ((mouS r k).length : Int) + 1 := by rw [mou_s ht77, List.length_append]; rfl
        exact K.round_endW (L'' := [K.mq b16 none (kvS r k ++ [(Value.string (r.getD k default).nm, 1)])]) [.int .i64 (((mouS r k).length : Int) + 1), .int .i64 (k : Int), .int .i64 ((k : Int) + 1)] ⟨k + 1, by rw [hl2, hg1]; rfl, by rw [kv_s hk], by omega, K.lt_succ_case hall hrv⟩ (by simp [K.nth, intOf]; omega) (List.Sublist.cons _ (List.Sublist.cons _ (List.Sublist.cons _ (List.Sublist.cons_cons _ (List.nil_sublist _))))) (by kernel_rfl)
      try replace ht81 := of_decide_eq_false ht81
      refine K.skip ?_
      refine K.norm_block ?_
      refine K.norm_then ?_
      refine K.region_lit ?_
      refine qp (K.add_i64 rfl rfl (by omega)) ?_
      refine qm ?_
      refine K.seq_nil ?_
      have hg1 : ((mouS r (k + 1)).getD 1 0 : Nat) = (mouS r k).getD 1 0 := by
        rw [mou_s ht77]
        exact mou_g (by omega)
      have hl2 : (((mouS r (k + 1)).length : Nat) : Int) = ((mouS r k).length : Int) + 1 := by rw [mou_s ht77, List.length_append]; rfl
      exact K.round_endW (L'' := [K.mq b16 none (kvS r k ++ [(Value.string (r.getD k default).nm, 1)])]) [.int .i64 (((mouS r k).length : Int) + 1), .int .i64 (((mouS r k).getD 1 0 : Nat) : Int), .int .i64 ((k : Int) + 1)] ⟨k + 1, by rw [hl2, hg1]; rfl, by rw [kv_s hk], by omega, K.lt_succ_case hall hrv⟩ (by simp [K.nth, intOf]; omega) (List.Sublist.cons _ (List.Sublist.cons _ (List.Sublist.cons _ (List.Sublist.cons_cons _ (List.nil_sublist _))))) (by kernel_rfl)
    try replace ht77 := of_decide_eq_false ht77
    have hrv : rvE r k = 0 := by rw [rv_p hnm hfr]; exact pos_0 (by omega) (by omega) (by omega)
    refine K.skip ?_
    refine K.norm_block ?_
    refine K.norm_then ?_
    refine K.region_lit ?_
    refine qp (K.add_i64 rfl rfl (by omega)) ?_
    refine qm ?_
    refine K.seq_nil ?_
    have hg1 : ((mouS r (k + 1)).getD 1 0 : Nat) = (mouS r k).getD 1 0 := by rw [mou_n ht77]
    have hl2 : (((mouS r (k + 1)).length : Nat) : Int) = ((mouS r k).length : Int) := by rw [mou_n ht77]
    exact K.round_endW (L'' := [K.mq b16 none (kvS r k ++ [(Value.string (r.getD k default).nm, 1)])]) [.int .i64 ((mouS r k).length : Int), .int .i64 (((mouS r k).getD 1 0 : Nat) : Int), .int .i64 ((k : Int) + 1)] ⟨k + 1, by rw [hl2, hg1]; rfl, by rw [kv_s hk], by omega, K.lt_succ_case hall hrv⟩ (by simp [K.nth, intOf]; omega) (List.Sublist.cons _ (List.Sublist.cons _ (List.Sublist.cons _ (List.Sublist.cons_cons _ (List.nil_sublist _))))) (by kernel_rfl)
  try replace ht21 := of_decide_eq_false ht21
  refine K.exit ?_
  refine K.exit_then ?_
  refine K.exit_then ?_
  refine K.exit_here ?_
  refine K.norm_then ?_
  refine K.seq ?_
  refine K.block ?_
  refine K.seq ?_
  have hln : 1 ≤ r.length ∧ r.length ≤ 9 := by omega
  have hf0 : (K.fst (rvE r) (List.range r.length)).2 = 0 := fst_0 (fun j hj => hall j (by omega))
  obtain rfl : k = r.length := by omega
  have hdn : ∀ i, i < r.length → -1 ≤ (r.getD i default).dn ∧ (r.getD i default).dn ≤ (r.length : Int) - 1 := fun i hi => (pos_ok (rv_ok (hall i hi)).2.2).2.1
  refine K.region_lit ?_
  refine qm ?_
  refine qp (K.eql rfl rfl) ?_
  refine qa ?_
  refine sn ?_
  refine K.cond rfl (fun ht84 => ?_) (fun ht84 => ?_)
  · try replace ht84 := of_decide_eq_true ht84
    refine sr ?_
    iterate 3 refine qa ?_
    refine sn ?_
    refine K.ret ?_
    refine K.ret_block ?_
    refine K.ret_then ?_
    refine K.end_ret (fun w _ => K.res_ttt rfl w) ?_
    exact K.gives (by rw [chk_3 hln hf0 (by omega)]; rfl)
  try replace ht84 := of_decide_eq_false ht84
  refine sr ?_
  refine qm ?_
  refine qp (K.gtr rfl rfl) ?_
  refine qa ?_
  refine sn ?_
  refine K.cond rfl (fun ht87 => ?_) (fun ht87 => ?_)
  · try replace ht87 := of_decide_eq_true ht87
    refine sr ?_
    refine qm ?_
    iterate 3 refine qa ?_
    refine sn ?_
    refine K.ret ?_
    refine K.ret_block ?_
    refine K.ret_then ?_
    refine K.end_ret (fun w _ => K.res_ttt rfl w) ?_
    exact K.gives (by rw [chk_4 hln hf0 (by omega)]; rfl)
  try replace ht87 := of_decide_eq_false ht87
  refine K.skip ?_
  refine K.norm_block ?_
  refine K.norm_then ?_
  refine K.seq ?_
  refine sr ?_
  refine qm ?_
  refine qp (K.len_sl sl_22 rfl) ?_
  refine qm ?_
  refine sn ?_
  refine K.block ?_
  refine K.loopW [93] [2, 3, 4, 10, 11, 94, 95, 96, 97, 98, 99, 100, 101, 102, 103, 104, 105, 106, 107, 108, 109, 110, 111, 112, 113, 114, 115, 116, 117, 118, 119, 120] (fun vi L => ∃ i : Nat, vi = [.int .i64 (i : Int)] ∧ L = [K.mq b16 none (kvS r r.length)] ∧ i ≤ r.length ∧ ∀ j, j < i → reaB r j = true) (fun vi => r.length - (intOf (K.nth vi 0)).toNat) ?_ ?_
  · exact ⟨0, rfl, rfl, Nat.zero_le _, fun j hj => absurd hj (Nat.not_lt_zero j)⟩
  intro vi vr L hJ
  obtain ⟨i, rfl, rfl, hin, hrea⟩ := hJ
  try dsimp only [setd, setn, ev, nth, over, cl, eI, eP, eT, eR, setM, setF, List.map, List.append, List.drop, List.take]
  refine sr ?_
  refine qp (K.lss rfl rfl) ?_
  refine sn ?_
  refine K.seq ?_
  refine K.cond rfl (fun ht94 => ?_) (fun ht94 => ?_)
  · try replace ht94 := of_decide_eq_true ht94
    have hi : i < r.length := by omega
    refine K.skip ?_
    refine K.norm_then ?_
    refine K.seq ?_
    refine K.block ?_
    refine sr ?_
    refine qm ?_
    refine qa ?_
    refine sn ?_
    refine sr ?_
    refine qm ?_
    refine qa ?_
    refine sn ?_
    refine K.seq ?_
    refine sr ?_
    refine qm ?_
    refine qp (K.len_sl sl_22 rfl) ?_
    refine qm ?_
    refine sn ?_
    refine K.block ?_
    refine K.loopW [11, 99] [100, 101, 102, 103, 104, 105, 106, 107, 108, 109, 110, 111, 112] (fun vi L => ∃ a : Nat, vi = [.int .i64 ((stps r a i : Nat) : Int), .int .i64 (a : Int)] ∧ L = [K.mq b16 none (kvS r r.length)] ∧ a ≤ r.length) (fun vi => r.length - (intOf (K.nth vi 1)).toNat) ?_ ?_
    · exact ⟨0, rfl, rfl, Nat.zero_le _⟩
    intro vi vr L hJ
    obtain ⟨a, rfl, rfl, han⟩ := hJ
    try dsimp only [setd, setn, ev, nth, over, cl, eI, eP, eT, eR, setM, setF, List.map, List.append, List.drop, List.take]
    refine sr ?_
    refine qp (K.lss rfl rfl) ?_
    refine sn ?_
    refine K.seq ?_
    refine K.cond rfl (fun ht100 => ?_) (fun ht100 => ?_)
    · try replace ht100 := of_decide_eq_true ht100
      have hal : a < r.length := by omega
      have hsl := stps_in hdn hi a
      have hsd := hdn _ hsl
      refine K.skip ?_
      refine K.norm_then ?_
      refine K.seq ?_
      refine K.block ?_
      refine sr ?_
      iterate 2 refine qm ?_
      refine K.seq_ix (M := []) (stps r a i) hR.sl sl_22 rfl rfl (by omega) (by omega) rfl ?_
      intro p103 hp103
      refine zN ?_
      refine qp (K.fieldAddr fo_34_1 rfl) ?_
      refine K.seq_sil (K.load1 one_3 rfl ((K.PtrL.fld hp103 (k := 1)).any)) rfl ?_
      refine zN ?_
      refine qp (K.neq rfl rfl) ?_
      refine sn ?_
      refine K.cond rfl (fun ht106 => ?_) (fun ht106 => ?_)
      · try replace ht106 := of_decide_eq_true ht106
        refine K.region_lit ?_
        iterate 2 refine qm ?_
        refine K.seq_ix (M := []) (stps r a i) hR.sl sl_22 rfl rfl (by omega) (by omega) rfl ?_
        intro p109 hp109
        refine zN ?_
        refine qp (K.fieldAddr fo_34_1 rfl) ?_
        refine K.seq_sil (K.load1 one_3 rfl ((K.PtrL.fld hp109 (k := 1)).any)) rfl ?_
        refine zN ?_
        refine qa ?_
        refine K.seq_nil ?_
        refine K.norm_block ?_
        refine K.norm_then ?_
        refine K.region_lit ?_
        refine qp (K.add_i64 rfl rfl (by omega)) ?_
        refine qm ?_
        refine K.seq_nil ?_
        have hst1 : ((stps r (a + 1) i : Nat) : Int) = (r.getD (stps r a i) default).dn := by rw [stps_up ht106]; omega
        exact K.round_endW (L'' := [K.mq b16 none (kvS r r.length)]) [.int .i64 (r.getD (stps r a i) default).dn, .int .i64 ((a : Int) + 1)] ⟨a + 1, by rw [hst1]; rfl, rfl, by omega⟩ (by simp [K.nth, intOf]; omega) (List.Sublist.refl _) (by kernel_rfl)
      try replace ht106 := of_decide_eq_false ht106
      refine K.skip ?_
      refine K.norm_block ?_
      refine K.norm_then ?_
      refine K.region_lit ?_
      refine qp (K.add_i64 rfl rfl (by omega)) ?_
      refine qm ?_
      refine K.seq_nil ?_
      exact K.round_endW (L'' := [K.mq b16 none (kvS r r.length)]) [.int .i64 ((stps r a i : Nat) : Int), .int .i64 ((a : Int) + 1)] ⟨a + 1, by rw [stps_st (Decidable.not_not.1 ht106)]; rfl, rfl, by omega⟩ (by simp [K.nth, intOf]; omega) (List.Sublist.refl _) (by kernel_rfl)
    try replace ht100 := of_decide_eq_false ht100
    refine K.exit ?_
    refine K.exit_then ?_
    refine K.exit_then ?_
    refine K.exit_here ?_
    refine K.norm_then ?_
    refine K.seq ?_
    have haa : a = r.length := by omega
    subst haa
    have hsl := stps_in hdn hi r.length
    refine K.region_lit ?_
    iterate 2 refine qm ?_
    refine K.seq_ix (M := []) (stps r r.length i) hR.sl sl_22 rfl rfl (by omega) (by omega) rfl ?_
    intro p115 hp115
    refine zN ?_
    refine qp (K.fieldAddr fo_34_1 rfl) ?_
    refine K.seq_sil (K.load1 one_3 rfl ((K.PtrL.fld hp115 (k := 1)).any)) rfl ?_
    refine zN ?_
    refine qp (K.neq rfl rfl) ?_
    refine sn ?_
    refine K.cond rfl (fun ht118 => ?_) (fun ht118 => ?_)
    · try replace ht118 := of_decide_eq_true ht118
      have hsx : True := trivial
      refine sr ?_
      refine qm ?_
      iterate 3 refine qa ?_
      refine sn ?_
      refine K.ret ?_
      refine K.ret_block ?_
      refine K.ret_then ?_
      refine K.ret_then ?_
      refine K.ret_block ?_
      refine K.ret_then ?_
      refine K.end_ret (fun w _ => K.res_ttt rfl w) ?_
      have hre : reaB r i = false := decide_eq_false ht118
      exact K.gives (by rw [chk_5 hln hf0 (by omega) hi hrea hre]; rfl)
    try replace ht118 := of_decide_eq_false ht118
    refine K.skip ?_
    refine K.norm_block ?_
    refine K.norm_then ?_
    refine K.region_lit ?_
    refine qp (K.add_i64 rfl rfl (by omega)) ?_
    refine qm ?_
    refine K.seq_nil ?_
    have hre : reaB r i = true := decide_eq_true (Decidable.not_not.1 ht118)
    exact K.round_endW (L'' := [K.mq b16 none (kvS r r.length)]) [.int .i64 ((i : Int) + 1)] ⟨i + 1, rfl, rfl, by omega, K.lt_succ_case hrea hre⟩ (by simp [K.nth, intOf]; omega) (List.Sublist.refl _) (by kernel_rfl)
  try replace ht94 := of_decide_eq_false ht94
  refine K.exit ?_
  refine K.exit_then ?_
  refine K.exit_then ?_
  refine K.exit_here ?_
  refine K.norm_then ?_
  refine sr ?_
  iterate 3 refine qa ?_
  refine sn ?_
  refine K.ret ?_
  refine K.end_ret (fun w _ => K.res_ttt rfl w) ?_
  exact K.gives (by rw [chk_0 hln hf0 (by omega) (fun j hj => hrea j (by omega))]; rfl)

end Go.Proofs.YtekkpcpbnonkaaaGreatDoor.Rv
end
section
set_option linter.unusedSimpArgs false
set_option linter.unusedVariables false
namespace Go.Proofs.YtekkpcpbnonkaaaGreatDoor.Rv
open Go.RowKit Go
open Go.K (setd setn ev nth over cl eI eP eT setM setF)
attribute [local irreducible] K.blk K.row
theorem rv_fresh {r : List RvT} {i : Nat} : rvE r i = if freshE (r.getD i default).nm ((r.take i).map (·.nm)) = 0 then posE r.length i (r.getD i default) else freshE (r.getD i default).nm ((r.take i).map (·.nm)) := by
  have e : (((r.take i).map (·.nm)).any fun q => nmEq q (r.getD i default).nm) = (r.take i).any fun q => nmEq q.nm (r.getD i default).nm := by rw [List.any_map]; rfl
  unfold rvE freshE
  rw [e]
  split
  · simp
  · split
    · simp
    · simp

set_option maxRecDepth 100000 in
set_option maxHeartbeats 1000000 in
theorem c15 {r : List RvT} {A : Option Addr} {c : Nat} {w : World} (hR : K.Rd w A 4 eR r) (hn : r.length ≤ 4611686018427387904) :
    Calls Tryz.prog 4 [.slice A r.length c].toArray w (K.Gives (K.tup3 (chk r)) w) := by
  refine K.enter (args := [.slice A r.length c]) Tryz.func4 rfl (n := 98) rfl ?_
  simp only [List.replicate, List.cons_append, List.nil_append]
  refine sr ?_
  iterate 3 refine qa ?_
  refine sn ?_
  refine K.seq ?_
  refine sr ?_
  refine qm ?_
  refine qp (K.len_sl sl_22 rfl) ?_
  refine K.seq_call (K.call_g cal_15 (fun F w hF hw => c49 w)) rfl ?_
  refine zN ?_
  first | refine K.seq_pure (K.not_d rfl) rfl ?_ | refine K.seq_pure (K.not_ rfl) rfl ?_
  refine zN ?_
  refine sn ?_
  refine K.cond rfl (fun ht16 => ?_) (fun ht16 => ?_)
  · try replace ht16 := of_decide_eq_true ht16
    refine sr ?_
    iterate 3 refine qa ?_
    refine sn ?_
    refine K.ret ?_
    refine K.ret_then ?_
    refine K.end_ret (fun w _ => K.res_ttt rfl w) ?_
    exact K.gives (by rw [chk_1 (by omega)]; rfl)
  try replace ht16 := of_decide_eq_false ht16
  refine K.skip ?_
  refine K.norm_then ?_
  refine sr ?_
  refine qa ?_
  refine sn ?_
  refine K.seq ?_
  refine sr ?_
  refine K.nil_row (e := 9) (size := 1) ?_
  refine qa ?_
  refine sn ?_
  refine K.block ?_
  refine K.loopW [5, 6] [2, 3, 4, 7, 17, 18, 19, 20, 21, 22, 23, 24, 25, 26, 27, 28, 29, 30, 31, 32, 33, 34, 35, 36, 37, 38, 39, 40, 41, 42, 43, 44, 45, 46] (fun vi L => ∃ (k : Nat) (Q1 : Option Addr) (q1 : Nat), vi = [.slice Q1 ((r.take k).map (·.nm)).length q1, .int .i64 (k : Int)] ∧ L = [K.row (.slice Q1 ((r.take k).map (·.nm)).length q1) 9 1 ((r.take k).map (·.nm)).length (((r.take k).map (·.nm)).flatMap eB)] ∧ k ≤ r.length ∧ ∀ j, j < k → rvE r j = 0) (fun vi => r.length - (intOf (K.nth vi 1)).toNat) ?_ ?_
  · exact ⟨0, none, 0, rfl, rfl, Nat.zero_le _, fun j hj => absurd hj (Nat.not_lt_zero j)⟩
  intro vi vr L hJ
  obtain ⟨k, Q1, q1, rfl, rfl, hkn, hall⟩ := hJ
  have hnl : ((r.take k).map (·.nm)).length = k := by rw [List.length_map, List.length_take]; omega
  have hnl2 : ((r.take k).map (·.nm)).length ≤ 4611686018427387904 := by rw [hnl]; omega
  try dsimp only [setd, setn, ev, nth, over, cl, eI, eP, eT, eR, setM, setF, List.map, List.append, List.drop, List.take]
  refine K.seq ?_
  refine sr ?_
  iterate 2 refine qm ?_
  refine qp (K.len_sl sl_22 rfl) ?_
  refine qp (K.lss rfl rfl) ?_
  refine sn ?_
  refine K.cond rfl (fun ht20 => ?_) (fun ht20 => ?_)
  · try replace ht20 := of_decide_eq_true ht20
    have hk : k < r.length := by omega
    refine K.skip ?_
    refine K.norm_then ?_
    refine K.seq ?_
    refine K.block ?_
    refine K.seq ?_
    refine K.use_row K.m0 (fun hQ => ?_)
    refine K.region_lit ?_
    iterate 2 refine qm ?_
    refine K.seq_ix (M := []) _ hR.sl sl_22 rfl rfl rfl (by omega) rfl ?_
    intro p25 hp25
    refine zN ?_
    refine qp (K.fieldAddr fo_34_0 rfl) ?_
    refine K.seq_sil (K.load1 one_9 rfl ((K.PtrL.fld hp25 (k := 0)).any)) rfl ?_
    refine zN ?_
    refine qm ?_
    refine K.seq_call (K.call_g cal_16 (fun F w hF hw => (by have hh := K.Rd.own hw (hF _ (K.m0)) hQ (e := eB) (fun _ => rfl) (by decide); exact c50 (l := ((r.take k).map (·.nm))) hh hnl2))) rfl ?_
    refine zN ?_
    refine qa ?_
    refine sn ?_
    refine sr ?_
    iterate 3 refine qm ?_
    refine K.seq_ix (M := []) _ hR.sl sl_22 rfl rfl rfl (by omega) rfl ?_
    intro p33 hp33
    refine zN ?_
    refine qp (K.fieldAddr fo_34_0 rfl) ?_
    refine K.seq_sil (K.load1 one_9 rfl ((K.PtrL.fld hp33 (k := 0)).any)) rfl ?_
    refine zN ?_
    refine K.seq_new (K.buildSlice (bs62 _)) rfl ?_
    intro b36
    refine zN ?_
    refine K.seq_upd (K.append el_47 rfl rfl (K.PtrL.own' (K.m0)) rfl rfl (by decide) (by omega) (by omega) (fun _ _ => K.rp1)) rfl ?_
    rintro ⟨g37, c37⟩ _
    refine zN ?_
    refine qa ?_
    refine sn ?_
    refine K.seq ?_
    refine sr ?_
    refine qm ?_
    refine qp (K.eql rfl rfl) ?_
    refine sn ?_
    refine K.cond rfl (fun ht39 => ?_) (fun ht39 => ?_)
    · try replace ht39 := of_decide_eq_true ht39
      refine K.region_lit ?_
      iterate 2 refine qm ?_
      refine K.seq_call (K.call_g cal_17 (fun F w hF hw => c51 (hR.pass hw) hn hk)) rfl ?_
      refine zN ?_
      refine qa ?_
      refine sn ?_
      refine sr ?_
      refine qm ?_
      refine qp (K.neq rfl rfl) ?_
      refine sn ?_
      refine K.cond rfl (fun ht44 => ?_) (fun ht44 => ?_)
      · try replace ht44 := of_decide_eq_true ht44
        refine sr ?_
        iterate 2 refine qm ?_
        iterate 3 refine qa ?_
        refine sn ?_
        refine K.ret ?_
        refine K.ret_block ?_
        refine K.ret_then ?_
        refine K.ret_then ?_
        refine K.ret_block ?_
        refine K.ret_then ?_
        refine K.end_ret (fun w _ => K.res_ttt rfl w) ?_
        have hne : rvE r k ≠ 0 := by rw [rv_fresh, if_pos ht39]; exact ht44
        exact K.gives (by rw [chk_at (by omega) hk hall hne, rv_fresh, if_pos ht39]; rfl)
      try replace ht44 := of_decide_eq_false ht44
      refine K.skip ?_
      refine K.norm_block ?_
      refine K.norm_then ?_
      refine K.region_lit ?_
      refine qm ?_
      refine qp (K.add_i64 rfl rfl (by omega)) ?_
      refine qa ?_
      refine K.seq_nil ?_
      have hrv : rvE r k = 0 := by
        rw [rv_fresh]
        first
          | (rw [if_pos ht39]; omega)
          | (rw [if_neg ht39]; omega)
      exact K.round_endW (L'' := [K.row (.slice (some ⟨g37, 0, none⟩) (((r.take k).map (·.nm)).length + 1) c37) 9 1 (((r.take k).map (·.nm)).length + 1) (((r.take k).map (·.nm)).flatMap eB ++ [.string (r.getD k default).nm])]) [.slice (some ⟨g37, 0, none⟩) (((r.take k).map (·.nm)).length + 1) c37, .int .i64 ((k : Int) + 1)] ⟨k + 1, some ⟨g37, 0, none⟩, c37, by rw [take_succ_map _ hk, List.length_append]; rfl, by rw [take_succ_map _ hk, List.length_append, List.flatMap_append]; rfl, by omega, K.lt_succ_case hall hrv⟩ (by simp [K.nth, intOf]; omega) (List.Sublist.cons _ (List.Sublist.refl _)) (by kernel_rfl)
    try replace ht39 := of_decide_eq_false ht39
    refine K.skip ?_
    refine K.norm_then ?_
    refine sr ?_
    refine qm ?_
    refine qp (K.neq rfl rfl) ?_
    refine sn ?_
    refine K.cond rfl (fun ht44 => ?_) (fun ht44 => ?_)
    · try replace ht44 := of_decide_eq_true ht44
      refine sr ?_
      iterate 2 refine qm ?_
      iterate 3 refine qa ?_
      refine sn ?_
      refine K.ret ?_
      refine K.ret_block ?_
      refine K.ret_then ?_
      refine K.ret_then ?_
      refine K.ret_block ?_
      refine K.ret_then ?_
      refine K.end_ret (fun w _ => K.res_ttt rfl w) ?_
      have hne : rvE r k ≠ 0 := by rw [rv_fresh, if_neg ht39]; exact ht44
      exact K.gives (by rw [chk_at (by omega) hk hall hne, rv_fresh, if_neg ht39]; rfl)
    try replace ht44 := of_decide_eq_false ht44
    refine K.skip ?_
    refine K.norm_block ?_
    refine K.norm_then ?_
    refine K.region_lit ?_
    refine qm ?_
    refine qp (K.add_i64 rfl rfl (by omega)) ?_
    refine qa ?_
    refine K.seq_nil ?_
    have hrv : rvE r k = 0 := by
      rw [rv_fresh]
      first
        | (rw [if_pos ht39]; omega)
        | (rw [if_neg ht39]; omega)
    exact K.round_endW (L'' := [K.row (.slice (some ⟨g37, 0, none⟩) (((r.take k).map (·.nm)).length + 1) c37) 9 1 (((r.take k).map (·.nm)).length + 1) (((r.take k).map (·.nm)).flatMap eB ++ [.string (r.getD k default).nm])]) [.slice (some ⟨g37, 0, none⟩) (((r.take k).map (·.nm)).length + 1) c37, .int .i64 ((k : Int) + 1)] ⟨k + 1, some ⟨g37, 0, none⟩, c37, by rw [take_succ_map _ hk, List.length_append]; rfl, by rw [take_succ_map _ hk, List.length_append, List.flatMap_append]; rfl, by omega, K.lt_succ_case hall hrv⟩ (by simp [K.nth, intOf]; omega) (List.Sublist.cons _ (List.Sublist.refl _)) (by kernel_rfl)
  try replace ht20 := of_decide_eq_false ht20
  refine K.exit ?_
  refine K.exit_then ?_
  refine K.exit_then ?_
  refine K.exit_here ?_
  refine K.norm_then ?_
  refine K.seq ?_
  have hln : 1 ≤ r.length ∧ r.length ≤ 9 := by omega
  have hf0 : (K.fst (rvE r) (List.range r.length)).2 = 0 := fst_0 (fun j hj => hall j (by omega))
  have hdn : ∀ i, i < r.length → -1 ≤ (r.getD i default).dn ∧ (r.getD i default).dn ≤ (r.length : Int) - 1 := fun i hi => (pos_ok (rv_ok (hall i (by omega))).2.2).2.1
  refine K.region_lit ?_
  refine qa ?_
  refine sn ?_
  refine K.seq ?_
  refine sr ?_
  refine qa ?_
  refine sn ?_
  refine K.block ?_
  refine K.loopW [8, 9] [2, 3, 4, 47, 48, 49, 50, 51, 52, 53, 54, 55, 56, 57, 58, 59, 60, 61, 62, 63] (fun vi L => ∃ j : Nat, vi = [.int .i64 ((mouS r j).length : Int), .int .i64 ((j : Nat) : Int)] ∧ L = [K.row (.slice Q1 ((r.take k).map (·.nm)).length q1) 9 1 ((r.take k).map (·.nm)).length (((r.take k).map (·.nm)).flatMap eB)] ∧ j ≤ r.length ∧ (mouS r j).length ≤ 1) (fun vi => r.length - (intOf (K.nth vi 1)).toNat) ?_ ?_
  · exact ⟨0, rfl, rfl, Nat.zero_le _, Nat.zero_le _⟩
  intro vi vr L hJ
  obtain ⟨j, rfl, rfl, hjn, hm1⟩ := hJ
  try dsimp only [setd, setn, ev, nth, over, cl, eI, eP, eT, eR, setM, setF, List.map, List.append, List.drop, List.take]
  refine K.seq ?_
  refine sr ?_
  iterate 2 refine qm ?_
  refine qp (K.len_sl sl_22 rfl) ?_
  refine qp (K.lss rfl rfl) ?_
  refine sn ?_
  refine K.cond rfl (fun ht50 => ?_) (fun ht50 => ?_)
  · try replace ht50 := of_decide_eq_true ht50
    have hj : j < r.length := by omega
    have hml := @mou_len r j
    refine K.skip ?_
    refine K.norm_then ?_
    refine K.seq ?_
    refine K.block ?_
    refine sr ?_
    iterate 2 refine qm ?_
    refine K.seq_ix (M := []) _ hR.sl sl_22 rfl rfl rfl (by omega) rfl ?_
    intro p55 hp55
    refine zN ?_
    refine qp (K.fieldAddr fo_34_1 rfl) ?_
    refine K.seq_sil (K.load1 one_3 rfl ((K.PtrL.fld hp55 (k := 1)).any)) rfl ?_
    refine zN ?_
    refine qp (K.eql rfl rfl) ?_
    refine sn ?_
    refine K.cond rfl (fun ht58 => ?_) (fun ht58 => ?_)
    · try replace ht58 := of_decide_eq_true ht58
      refine sr ?_
      refine qm ?_
      refine qp (K.add_i64 rfl rfl (by omega)) ?_
      refine qa ?_
      refine sn ?_
      refine sr ?_
      refine qm ?_
      refine qp (K.eql rfl rfl) ?_
      refine sn ?_
      refine K.cond rfl (fun ht62 => ?_) (fun ht62 => ?_)
      · try replace ht62 := of_decide_eq_true ht62
        refine sr ?_
        refine qm ?_
        iterate 3 refine qa ?_
        refine sn ?_
        refine K.ret ?_
        refine K.ret_block ?_
        refine K.ret_then ?_
        refine K.ret_then ?_
        refine K.ret_block ?_
        refine K.ret_then ?_
        refine K.end_ret (fun w _ => K.res_ttt rfl w) ?_
        obtain ⟨hm2, hm3⟩ := mou_two (by omega) ht58 hj
        exact K.gives (by rw [chk_4 hln hf0 hm2, hm3]; rfl)
      try replace ht62 := of_decide_eq_false ht62
      refine K.skip ?_
      refine K.norm_block ?_
      refine K.norm_then ?_
      refine K.region_lit ?_
      refine qm ?_
      refine qp (K.add_i64 rfl rfl (by omega)) ?_
      refine qa ?_
      refine K.seq_nil ?_
      have hm1 : (mouS r (j + 1)).length = (mouS r j).length + 1 := by rw [mou_s ht58, List.length_append]; rfl
      exact K.round_endW (L'' := [K.row (.slice Q1 ((r.take k).map (·.nm)).length q1) 9 1 ((r.take k).map (·.nm)).length (((r.take k).map (·.nm)).flatMap eB)]) [.int .i64 (((mouS r j).length : Int) + 1), .int .i64 ((j : Int) + 1)] ⟨j + 1, by rw [hm1]; rfl, rfl, by omega, by omega⟩ (by simp [K.nth, intOf]; omega) (List.Sublist.refl _) (by kernel_rfl)
    try replace ht58 := of_decide_eq_false ht58
    refine K.skip ?_
    refine K.norm_block ?_
    refine K.norm_then ?_
    refine K.region_lit ?_
    refine qm ?_
    refine qp (K.add_i64 rfl rfl (by omega)) ?_
    refine qa ?_
    refine K.seq_nil ?_
    have hm1 : (mouS r (j + 1)).length = (mouS r j).length := by rw [mou_n ht58]
    exact K.round_endW (L'' := [K.row (.slice Q1 ((r.take k).map (·.nm)).length q1) 9 1 ((r.take k).map (·.nm)).length (((r.take k).map (·.nm)).flatMap eB)]) [.int .i64 ((mouS r j).length : Int), .int .i64 ((j : Int) + 1)] ⟨j + 1, by rw [hm1]; rfl, rfl, by omega, by omega⟩ (by simp [K.nth, intOf]; omega) (List.Sublist.refl _) (by kernel_rfl)
  try replace ht50 := of_decide_eq_false ht50
  refine K.exit ?_
  refine K.exit_then ?_
  refine K.exit_then ?_
  refine K.exit_here ?_
  refine K.norm_then ?_
  refine K.seq ?_
  refine sr ?_
  refine qm ?_
  refine qp (K.eql rfl rfl) ?_
  refine sn ?_
  refine K.cond rfl (fun ht65 => ?_) (fun ht65 => ?_)
  · try replace ht65 := of_decide_eq_true ht65
    refine sr ?_
    iterate 3 refine qa ?_
    refine sn ?_
    refine K.ret ?_
    refine K.ret_then ?_
    refine K.end_ret (fun w _ => K.res_ttt rfl w) ?_
    obtain rfl : j = r.length := by omega
    exact K.gives (by rw [chk_3 hln hf0 (by omega)]; rfl)
  try replace ht65 := of_decide_eq_false ht65
  refine K.skip ?_
  refine K.norm_then ?_
  refine K.seq ?_
  refine sr ?_
  refine qa ?_
  refine sn ?_
  refine K.block ?_
  refine K.loopW [10] [2, 3, 4, 11, 12, 66, 67, 68, 69, 70, 71, 72, 73, 74, 75, 76, 77, 78, 79, 80, 81, 82, 83, 84, 85, 86, 87, 88, 89, 90, 91, 92, 93, 94, 95, 96, 97, 98] (fun vi L => ∃ i : Nat, vi = [.int .i64 (i : Int)] ∧ L = [K.row (.slice Q1 ((r.take k).map (·.nm)).length q1) 9 1 ((r.take k).map (·.nm)).length (((r.take k).map (·.nm)).flatMap eB)] ∧ i ≤ r.length ∧ ∀ j, j < i → reaB r j = true) (fun vi => r.length - (intOf (K.nth vi 0)).toNat) ?_ ?_
  · exact ⟨0, rfl, rfl, Nat.zero_le _, fun j hj => absurd hj (Nat.not_lt_zero j)⟩
  intro vi vr L hJ
  obtain ⟨i, rfl, rfl, hin, hrea⟩ := hJ
  try dsimp only [setd, setn, ev, nth, over, cl, eI, eP, eT, eR, setM, setF, List.map, List.append, List.drop, List.take]
  refine K.seq ?_
  refine sr ?_
  iterate 2 refine qm ?_
  refine qp (K.len_sl sl_22 rfl) ?_
  refine qp (K.lss rfl rfl) ?_
  refine sn ?_
  refine K.cond rfl (fun ht69 => ?_) (fun ht69 => ?_)
  · try replace ht69 := of_decide_eq_true ht69
    have hi : i < r.length := by omega
    refine K.skip ?_
    refine K.norm_then ?_
    refine K.seq ?_
    refine K.block ?_
    refine sr ?_
    refine qm ?_
    refine qa ?_
    refine sn ?_
    refine K.seq ?_
    refine sr ?_
    refine qa ?_
    refine sn ?_
    refine K.block ?_
    refine K.loopW [11, 12] [73, 74, 75, 76, 77, 78, 79, 80, 81, 82, 83, 84, 85, 86, 87, 88, 89, 90, 91] (fun vi L => ∃ a : Nat, vi = [.int .i64 ((stps r a i : Nat) : Int), .int .i64 (a : Int)] ∧ L = [K.row (.slice Q1 ((r.take k).map (·.nm)).length q1) 9 1 ((r.take k).map (·.nm)).length (((r.take k).map (·.nm)).flatMap eB)] ∧ a ≤ r.length) (fun vi => r.length - (intOf (K.nth vi 1)).toNat) ?_ ?_
    · exact ⟨0, rfl, rfl, Nat.zero_le _⟩
    intro vi vr L hJ
    obtain ⟨a, rfl, rfl, han⟩ := hJ
    try dsimp only [setd, setn, ev, nth, over, cl, eI, eP, eT, eR, setM, setF, List.map, List.append, List.drop, List.take]
    refine K.seq ?_
    refine sr ?_
    iterate 2 refine qm ?_
    refine qp (K.len_sl sl_22 rfl) ?_
    refine qp (K.lss rfl rfl) ?_
    refine qm ?_
    refine K.split 77 rfl (fun hg77 => ?_) (fun hg77 => ?_)
    · try replace hg77 := of_decide_eq_true hg77
      have hal : a < r.length := by omega
      have hsl := stps_in hdn hi a
      have hsd := hdn _ hsl
      iterate 2 refine qm ?_
      refine K.seq_ix (M := []) (stps r a i) hR.sl sl_22 rfl rfl (by omega) (by omega) rfl ?_
      intro p80 hp80
      refine zN ?_
      refine qp (K.fieldAddr fo_34_1 rfl) ?_
      refine K.seq_sil (K.load1 one_3 rfl ((K.PtrL.fld hp80 (k := 1)).any)) rfl ?_
      refine zN ?_
      refine qp (K.neq rfl rfl) ?_
      refine qp (K.pick_t rfl) ?_
      refine sn ?_
      refine K.cond rfl (fun ht84 => ?_) (fun ht84 => ?_)
      · try replace ht84 := of_decide_eq_true ht84
        refine K.skip ?_
        refine K.norm_then ?_
        refine K.seq ?_
        refine K.block ?_
        refine K.region_lit ?_
        iterate 2 refine qm ?_
        refine K.seq_ix (M := []) (stps r a i) hR.sl sl_22 rfl rfl (by omega) (by omega) rfl ?_
        intro p89 hp89
        refine zN ?_
        refine qp (K.fieldAddr fo_34_1 rfl) ?_
        refine K.seq_sil (K.load1 one_3 rfl ((K.PtrL.fld hp89 (k := 1)).any)) rfl ?_
        refine zN ?_
        refine qa ?_
        refine K.seq_nil ?_
        refine K.norm_block ?_
        refine K.norm_then ?_
        refine K.region_lit ?_
        refine qm ?_
        refine qp (K.add_i64 rfl rfl (by omega)) ?_
        refine qa ?_
        refine K.seq_nil ?_
        have hst1 : ((stps r (a + 1) i : Nat) : Int) = (r.getD (stps r a i) default).dn := by rw [stps_up ht84]; omega
        exact K.round_endW (L'' := [K.row (.slice Q1 ((r.take k).map (·.nm)).length q1) 9 1 ((r.take k).map (·.nm)).length (((r.take k).map (·.nm)).flatMap eB)]) [.int .i64 (r.getD (stps r a i) default).dn, .int .i64 ((a : Int) + 1)] ⟨a + 1, by rw [hst1]; rfl, rfl, by omega⟩ (by simp [K.nth, intOf]; omega) (List.Sublist.refl _) (by kernel_rfl)
      try replace ht84 := of_decide_eq_false ht84
      refine K.exit ?_
      refine K.exit_then ?_
      refine K.exit_then ?_
      refine K.exit_here ?_
      refine K.norm_then ?_
      refine sr ?_
      iterate 2 refine qm ?_
      refine K.seq_ix (M := []) (stps r a i) hR.sl sl_22 rfl rfl (by omega) (by omega) rfl ?_
      intro p94 hp94
      refine zN ?_
      refine qp (K.fieldAddr fo_34_1 rfl) ?_
      refine K.seq_sil (K.load1 one_3 rfl ((K.PtrL.fld hp94 (k := 1)).any)) rfl ?_
      refine zN ?_
      refine qp (K.neq rfl rfl) ?_
      refine sn ?_
      refine K.cond rfl (fun ht97 => ?_) (fun ht97 => ?_)
      · try replace ht97 := of_decide_eq_true ht97
        refine sr ?_
        refine qm ?_
        iterate 3 refine qa ?_
        refine sn ?_
        refine K.ret ?_
        refine K.ret_block ?_
        refine K.ret_then ?_
        refine K.ret_then ?_
        refine K.ret_block ?_
        refine K.ret_then ?_
        refine K.end_ret (fun w _ => K.res_ttt rfl w) ?_
        obtain rfl : j = r.length := by omega
        first
          | (subst haa; have hre : reaB r i = false := decide_eq_false ht97
             exact K.gives (by rw [chk_5 hln hf0 (by omega) hi hrea hre]; rfl))
          | exact absurd (Decidable.not_not.1 ht84) ht97
      try replace ht97 := of_decide_eq_false ht97
      refine K.skip ?_
      refine K.norm_block ?_
      refine K.norm_then ?_
      refine K.region_lit ?_
      refine qm ?_
      refine qp (K.add_i64 rfl rfl (by omega)) ?_
      refine qa ?_
      refine K.seq_nil ?_
      have hre : reaB r i = true := by
        have hd : (r.getD (stps r a i) default).dn = -1 := Decidable.not_not.1 ht97
        exact decide_eq_true (by rw [stps_rest hd han]; exact hd)
      exact K.round_endW (L'' := [K.row (.slice Q1 ((r.take k).map (·.nm)).length q1) 9 1 ((r.take k).map (·.nm)).length (((r.take k).map (·.nm)).flatMap eB)]) [.int .i64 ((i : Int) + 1)] ⟨i + 1, rfl, rfl, by omega, K.lt_succ_case hrea hre⟩ (by simp [K.nth, intOf]; omega) (List.Sublist.refl _) (by kernel_rfl)
    try replace hg77 := of_decide_eq_false hg77
    have haa : a = r.length := by omega
    have hsl := stps_in hdn hi a
    iterate 6 refine qs ?_
    refine qp (K.pick_f rfl) ?_
    refine sn ?_
    refine K.cond_false rfl ?_
    refine K.exit ?_
    refine K.exit_then ?_
    refine K.exit_then ?_
    refine K.exit_here ?_
    refine K.norm_then ?_
    refine sr ?_
    iterate 2 refine qm ?_
    refine K.seq_ix (M := []) (stps r a i) hR.sl sl_22 rfl rfl (by omega) (by omega) rfl ?_
    intro p94 hp94
    refine zN ?_
    refine qp (K.fieldAddr fo_34_1 rfl) ?_
    refine K.seq_sil (K.load1 one_3 rfl ((K.PtrL.fld hp94 (k := 1)).any)) rfl ?_
    refine zN ?_
    refine qp (K.neq rfl rfl) ?_
    refine sn ?_
    refine K.cond rfl (fun ht97 => ?_) (fun ht97 => ?_)
    · try replace ht97 := of_decide_eq_true ht97
      refine sr ?_
      refine qm ?_
      iterate 3 refine qa ?_
      refine sn ?_
      refine K.ret ?_
      refine K.ret_block ?_
      refine K.ret_then ?_
      refine K.ret_then ?_
      refine K.ret_block ?_
      refine K.ret_then ?_
      refine K.end_ret (fun w _ => K.res_ttt rfl w) ?_
      obtain rfl : j = r.length := by omega
      first
        | (subst haa; have hre : reaB r i = false := decide_eq_false ht97
           exact K.gives (by rw [chk_5 hln hf0 (by omega) hi hrea hre]; rfl))
        | exact absurd (Decidable.not_not.1 ht84) ht97
    try replace ht97 := of_decide_eq_false ht97
    refine K.skip ?_
    refine K.norm_block ?_
    refine K.norm_then ?_
    refine K.region_lit ?_
    refine qm ?_
    refine qp (K.add_i64 rfl rfl (by omega)) ?_
    refine qa ?_
    refine K.seq_nil ?_
    have hre : reaB r i = true := by
      have hd : (r.getD (stps r a i) default).dn = -1 := Decidable.not_not.1 ht97
      exact decide_eq_true (by rw [stps_rest hd han]; exact hd)
    exact K.round_endW (L'' := [K.row (.slice Q1 ((r.take k).map (·.nm)).length q1) 9 1 ((r.take k).map (·.nm)).length (((r.take k).map (·.nm)).flatMap eB)]) [.int .i64 ((i : Int) + 1)] ⟨i + 1, rfl, rfl, by omega, K.lt_succ_case hrea hre⟩ (by simp [K.nth, intOf]; omega) (List.Sublist.refl _) (by kernel_rfl)
  try replace ht69 := of_decide_eq_false ht69
  refine K.exit ?_
  refine K.exit_then ?_
  refine K.exit_then ?_
  refine K.exit_here ?_
  refine K.norm_then ?_
  refine sr ?_
  iterate 3 refine qa ?_
  refine sn ?_
  refine K.ret ?_
  refine K.end_ret (fun w _ => K.res_ttt rfl w) ?_
  obtain rfl : j = r.length := by omega
  exact K.gives (by rw [chk_0 hln hf0 (by omega) (fun j hj => hrea j (by omega))]; rfl)

end Go.Proofs.YtekkpcpbnonkaaaGreatDoor.Rv
end
section
set_option linter.unusedSimpArgs false
set_option linter.unusedVariables false
namespace Go.Proofs.YtekkpcpbnonkaaaGreatDoor.Rv
open Go
def insI (x : Int) : List Int → List Int
  | [] => [x]
  | y :: ys => if x ≤ y then x :: y :: ys else y :: insI x ys
def isrt : List Int → List Int
  | [] => []
  | x :: xs => insI x (isrt xs)
theorem ins_perm (x : Int) : ∀ l, (insI x l).Perm (x :: l)
  | [] => List.Perm.refl _
  | y :: ys => by
    unfold insI
    split
    · exact List.Perm.refl _
    · exact ((ins_perm x ys).cons y).trans (List.Perm.swap _ _ _)
theorem isrt_perm : ∀ l, (isrt l).Perm l
  | [] => List.Perm.refl _
  | x :: xs => (ins_perm x _).trans ((isrt_perm xs).cons x)
theorem ins_pw (x : Int) : ∀ {l : List Int}, l.Pairwise (· ≤ ·) → (insI x l).Pairwise (· ≤ ·)
  | [], _ => by simp [insI]
  | y :: ys, h => by
    obtain ⟨h1, h2⟩ := List.pairwise_cons.1 h
    unfold insI
    split
    · rename_i hx
      refine List.pairwise_cons.2 ⟨fun z hz => ?_, h⟩
      rcases List.mem_cons.1 hz with rfl | hz
      · exact hx
      · have := h1 z hz; omega
    · rename_i hx
      refine List.pairwise_cons.2 ⟨fun z hz => ?_, ins_pw x h2⟩
      have := (ins_perm x ys).mem_iff.1 hz
      rcases List.mem_cons.1 this with rfl | hz
      · omega
      · exact h1 z hz
theorem isrt_pw : ∀ l, (isrt l).Pairwise (· ≤ ·)
  | [] => List.Pairwise.nil
  | x :: xs => ins_pw x (isrt_pw xs)
theorem sort_pw {l : List Int} : (sortS l).Pairwise (· ≤ ·) := by
  have h := List.pairwise_mergeSort (le := fun x y : Int => decide (x ≤ y)) (fun a b c h1 h2 => by simp at *; omega) (fun a b => by simp; omega) l
  exact h.imp (fun h => by simpa using h)
theorem sort_is {l : List Int} : sortS l = isrt l := List.Perm.eq_of_pairwise (le := (· ≤ ·)) (fun a b _ _ h1 h2 => by omega) sort_pw (isrt_pw l) (sort_perm.trans (isrt_perm l).symm)
def hgtG (r : List RvT) (lv : List Int) (ch : Int) : Nat → List Int
  | 0 => []
  | i + 1 => hgtG r lv ch i ++ [(lv.find? fun l => decide (askS r lv (hgtG r lv ch i ++ [l + DM r i]) = ch)).getD (lv.getD (lv.length - 1) default) + DM r i]
theorem hgt_lv {r : List RvT} {lv : List Int} (h : levS r = lv) (ch : Int) : ∀ i, hgtF r ch i = hgtG r lv ch i
  | 0 => rfl
  | i + 1 => by rw [hgtF, hgtG, hgt_lv h ch i, h]
def rivS (w : Int) : List RvT := [⟨⟨#[115, 101, 97]⟩, -1, 0, 0⟩, ⟨⟨#[102, 111, 114, 100]⟩, 0, 5, 40⟩, ⟨⟨#[109, 105, 108, 108]⟩, 1, 10, 45⟩, ⟨⟨#[115, 112, 114, 105, 110, 103]⟩, 2, 10, 70⟩, ⟨⟨#[119, 101, 108, 108]⟩, 1, 0, w⟩]
def twoS : List RvT := [⟨⟨#[97]⟩, 1, 0, 0⟩, ⟨⟨#[98]⟩, 0, 0, 0⟩]
theorem ex_chk : (chk (rivS 38)).2.2 = 0 := by decide +kernel
theorem ex_two : chk twoS = (3, 0, 8) := by decide +kernel
theorem ex_bad : badL (rivS 38) = [2, 4] := by decide +kernel
theorem ex_pou : pouE (rivS 38) 3 = 0 ∧ pouE (rivS 38) 1 = 0 := by decide +kernel
theorem ex_poured : pouL (rivS 38) 3 = [3, 2] := by decide +kernel
theorem ex_fill : fillE (rivS 38) = 0 ∧ fillL (rivS 38) = [0, 40, 50, 70, 40] := by decide +kernel
theorem ex_carve : carveE (rivS 38) = 0 ∧ carveL (rivS 38) = [0, 35, 45, 70, 38] := by decide +kernel
theorem ex_few : fewL (rivS 38) = [1] := by decide +kernel
theorem ex_must : mustL (rivS 38) = [1] ∧ mayL (rivS 38) = [1] := by decide +kernel
theorem ex_prf : prfL (rivS 38) = [0, 1, 1, 2, 3] := by decide +kernel
def lvA : List Int := [0, 0, 0, 0, 0, 0, 30, 33, 35, 45, 8975, 8985, 8995, 8995, 9000]
theorem lv_A : levS (rivS 38) = lvA := by unfold levS; rw [sort_is]; decide +kernel
theorem ask_A : askS (rivS 38) lvA [] = 5 := by decide +kernel
theorem hgt_A : hgtG (rivS 38) lvA 5 5 = [0, 35, 45, 70, 38] := by decide +kernel
theorem ex_lst : lstC (rivS 38) = 5 ∧ lstL (rivS 38) = [0, 35, 45, 70, 38] := by
  have hc : chgS (rivS 38) = 5 := by unfold chgS; rw [lv_A]; exact ask_A
  have h0 : ¬ (chk (rivS 38)).2.2 ≠ 0 := by rw [ex_chk]; decide
  refine ⟨?_, ?_⟩
  · unfold lstC; rw [if_neg h0, hc]
  · unfold lstL; rw [if_neg h0, hc, hgt_lv lv_A]; exact hgt_A
end Go.Proofs.YtekkpcpbnonkaaaGreatDoor.Rv
end
section
set_option linter.unusedSimpArgs false
set_option linter.unusedVariables false
namespace Go.K
open Go.RowKit
section
variable {P : Program} {w0 : World} {L : List Chunk} {l : List Value} {d : Option Tmp} {ty : TypeId} {ps : String} {af : Array Edge} {g : Option (Nat × Bool)} {xt yt : TypeId} {x y : Operand} {a b : Bool}
end
end Go.K

namespace Go.K
open Go.RowKit
theorem flat_cut {E : Type} {e : E → List Value} {size : Nat} {rest : List Value} (hl : ∀ x, (e x).length = size) : ∀ {xs : List E} {k : Nat}, k ≤ xs.length → (xs.flatMap e ++ rest).take (k * size) = (xs.take k).flatMap e ∧ (xs.flatMap e ++ rest).drop (k * size) = (xs.drop k).flatMap e ++ rest
  | [], 0, _ => by simp
  | [], k + 1, h => by simp at h
  | x :: xs, 0, _ => by simp
  | x :: xs, k + 1, h => by
    have ih := flat_cut (rest := rest) hl (xs := xs) (k := k) (by simpa using h)
    have e1 : (k + 1) * size = (e x).length + k * size := by rw [hl, Nat.add_mul]; omega
    rw [List.flatMap_cons, List.append_assoc, e1]
    refine ⟨?_, ?_⟩
    · rw [List.take_append, List.take_of_length_le (by omega), show (e x).length + k * size - (e x).length = k * size by omega, ih.1]; simp
    · rw [List.drop_append, List.drop_of_length_le (by omega), show (e x).length + k * size - (e x).length = k * size by omega, ih.2]; simp
theorem set_cut {E : Type} {e : E → List Value} {xs : List E} {k : Nat} {x : E} {size : Nat} {rest : List Value} (hl : ∀ x, (e x).length = size) (hk : k < xs.length) : over (xs.flatMap e ++ rest) (0 + k * size) (e x) = (xs.set k x).flatMap e ++ rest := by
  have hlen : (xs.flatMap e).length = xs.length * size := flat_len hl xs
  have hfit : 0 + k * size + (e x).length ≤ (xs.flatMap e ++ rest).length := by
    rw [hl, List.length_append, hlen]
    have : (k + 1) * size ≤ xs.length * size := Nat.mul_le_mul_right _ hk
    rw [Nat.add_mul] at this; omega
  have h := List.toArray_inj (over_eq (e x) (xs.flatMap e ++ rest) (0 + k * size) hfit)
  rw [h, hl, Nat.zero_add, (flat_cut hl (by omega)).1, show k * size + size = (k + 1) * size by rw [Nat.add_mul]; omega, (flat_cut hl (by omega)).2, List.set_eq_take_append_cons_drop, if_pos hk, List.flatMap_append, List.flatMap_cons]
  simp
theorem over_len : ∀ (us xs : List Value) (j : Nat), (over xs j us).length = xs.length
  | [], _, _ => rfl
  | u :: us, xs, j => by rw [over, over_len us, setn_eq, List.length_set]
theorem over_app : ∀ (us xs rest : List Value) (j : Nat), j + us.length ≤ xs.length → over (xs ++ rest) j us = over xs j us ++ rest
  | [], _, _, _, _ => rfl
  | u :: us, xs, rest, j, h => by
    simp only [List.length_cons] at h
    rw [over, over, setn_eq, setn_eq, List.set_append_left _ _ (by omega)]
    exact over_app us _ rest (j + 1) (by rw [List.length_set]; omega)
section
variable {P : Program} {w0 : World} {L L' : List Chunk} {l : List Value} {d : Option Tmp} {ty : TypeId} {ps : String} {af : Array Edge} {g : Option (Nat × Bool)}
theorem store_row {t k b j n c size : Nat} {e : TypeId} {x y : Operand} {xs : List Value} (hn : sz P t = some k) (hx : ev l x = .pointer (some ⟨b, j, none⟩)) (hlen : (cl (ev l y)).length = k) (hfit : j + k ≤ xs.length)
    (h1 : (cl (ev l y)).all Value.oneCell' = true) (hr : Rep (row (.slice (some ⟨b, 0, none⟩) n c) e size n xs) (row (.slice (some ⟨b, 0, none⟩) n c) e size n (over xs j (cl (ev l y)))) L L') :
    Upd P w0 L ⟨d, .store t x y, ty, ps, af, g⟩ l (fun _ : Unit => True) (fun _ => undef) (fun _ => L') := fun w hw => by
  have ho : w.ownsRow 0 e size (.slice (some ⟨b, 0, none⟩) n c) n xs := (hw.2.1 _ hr.mem).1
  obtain ⟨hl, hd⟩ := ho
  rcases hd with ⟨hv, _⟩ | ⟨g', cap, ⟨cs⟩, hv, hb0, hh, h2, h3, h4, ht⟩
  · cases hv
  injection hv with e1 _ e3
  have e1' : b = g' := by injection e1 with e1; injection e1
  subst e1' e3
  have hcs : cs = xs ++ cs.drop (n * size) := by
    have : cs.take (n * size) = xs := ht
    rw [← this, List.take_append_drop]
  have hcl : xs.length ≤ cs.length := by rw [hcs, List.length_append]; omega
  have hst := run_storeCells_at P b j e (cl (ev l y)) 0 cs.toArray w hh (by simp; omega) (by simpa using h1)
  simp only [Nat.add_zero] at hst
  rw [← over_eq _ _ _ (by omega)] at hst
  refine OpT.of_skip (w' := w.setRow b (over cs j (cl (ev l y))).toArray) ?_ ⟨(), trivial, rfl, hw.upd hr (grownBy_setRow w b _) (fun k hk => by cases hk; rfl) ?_ (fun k hk => .inl hk)⟩
  · unfold sz at hn
    cases hi : P.info? t with
    | none => simp [hi] at hn
    | some q =>
      have hs : q.size = k := by simpa [hi] using hn
      have hcs : (ev l y).cells.size = k := by rw [← hlen, ← cells_cl]; simp
      simp [execOp, hx, Instr.storeAt, Instr.sureAddr, storeVar, sizeOf, typeInfo, hi, hs, hcs, cells_cl, hst]
  · refine ⟨by rw [over_len, hl], .inr ⟨b, c, (over cs j (cl (ev l y))).toArray, rfl, hb0, setRow_heap w b cs.toArray _ e (0, 0) hh, h2, h3, ?_, ?_⟩⟩
    · show (over cs j (cl (ev l y))).length = _
      rw [over_len]; exact h4
    · show (over cs j (cl (ev l y))).take (n * size) = _
      rw [hcs, over_app _ _ _ _ (by omega), ← hl, ← over_len (cl (ev l y)) xs j, List.take_left]
end
theorem set_cut0 {E : Type} {e : E → List Value} {xs : List E} {k : Nat} {x : E} {size : Nat} (hl : ∀ x, (e x).length = size) (hk : k < xs.length) : over (xs.flatMap e) (0 + k * size) (e x) = (xs.set k x).flatMap e := by
  have h := set_cut (rest := []) (x := x) hl hk
  simpa using h
theorem over_right : ∀ (us a b : List Value) (i : Nat), over (a ++ b) (a.length + i) us = a ++ over b i us
  | [], _, _, _ => rfl
  | u :: us, a, b, i => by
    rw [over, over, setn_eq, setn_eq, List.set_append_right _ _ (by omega), show a.length + i - a.length = i by omega, show a.length + i + 1 = a.length + (i + 1) by omega]
    exact over_right us a _ (i + 1)
theorem set_fld {E : Type} [Inhabited E] {e : E → List Value} {size j : Nat} {us : List Value} {x' : E} (hl : ∀ x, (e x).length = size) (hj : j + us.length ≤ size) : ∀ {xs : List E} {k : Nat}, k < xs.length → over (e (xs.getD k default)) j us = e x' → over (xs.flatMap e) (0 + k * size + j) us = (xs.set k x').flatMap e
  | [], _, h, _ => by simp at h
  | x :: xs, 0, _, h => by
    rw [List.flatMap_cons, show 0 + 0 * size + j = j by omega, over_app _ _ _ _ (by rw [hl]; exact hj)]
    rw [List.getD_cons_zero] at h
    rw [h]; rfl
  | x :: xs, k + 1, hk, h => by
    rw [List.getD_cons_succ] at h
    rw [List.flatMap_cons, show 0 + (k + 1) * size + j = (e x).length + (0 + k * size + j) by rw [hl, Nat.add_mul]; omega, over_right, set_fld hl hj (by simpa using hk) h]
    rfl
theorem rpe {c c' c'' : Chunk} {L L' : List Chunk} (hr : Rep c c' L L') (h : c' = c'') : Rep c c'' L L' := h ▸ hr
section
variable {P : Program} {l : List Value} {d : Option Tmp} {ty : TypeId} {ps : String} {af : Array Edge} {g : Option (Nat × Bool)} {xt yt : TypeId} {x y : Operand}
end
end Go.K

namespace Go.K
open Go.RowKit
section
variable {w0 : World} {L : List Chunk} {G : World → Prop}
end
end Go.K
end
section
set_option linter.unusedSimpArgs false
set_option linter.unusedVariables false
namespace Go.R
open Go.RowKit Go.K
def setP : List Value → List Tmp → List Value → List Value
  | l, p :: ps, v :: vs => setP (setn l p v) ps vs
  | l, _, _ => l
theorem setP_arr : ∀ (l : List Value) (ps : List Tmp) (vs : List Value), (ps.toArray.zip vs.toArray).foldl (fun tmps (t, a) => tmps.setIfInBounds t a) l.toArray = (setP l ps vs).toArray := by
  intro l ps vs
  have h : ∀ (l : List Value) (zs : List (Tmp × Value)), zs.foldl (fun tmps (z : Tmp × Value) => tmps.setIfInBounds z.1 z.2) l.toArray = (zs.foldl (fun l (z : Tmp × Value) => setn l z.1 z.2) l).toArray := by
    intro l zs
    induction zs generalizing l with
    | nil => rfl
    | cons z zs ih => simp only [List.foldl_cons]; rw [← ih]; simp [setn_eq]
  have h2 : ∀ (l : List Value) (ps : List Tmp) (vs : List Value), (ps.zip vs).foldl (fun l (z : Tmp × Value) => setn l z.1 z.2) l = setP l ps vs := by
    intro l ps
    induction ps generalizing l with
    | nil => intro vs; simp [setP]
    | cons p ps ih =>
      intro vs
      cases vs with
      | nil => simp [setP]
      | cons v vs => simp only [List.zip_cons_cons, List.foldl_cons, setP]; exact ih _ _
  rw [← h2, ← h, List.zip_toArray, List.foldl_toArray]
def RoundOK2 {α : Type} (P : Program) (lr : Nat) (enc : α → List Value) (XS : List α) (J Jx : Nat → (Nat → Prop) → World → Prop) : Prop :=
  ∀ k x f w, XS[k]? = some x → J k f w → YieldAt (fen none) 0 P lr (enc x).toArray w fun e w' => ∃ f', Grew f w f' ∧ Kept f w w' ∧ (∀ i, f' i → i < w'.heap.size) ∧ ((e = .returned (.bool true) ∧ J (k + 1) f' w') ∨ (e = .returned (.bool false) ∧ Jx (k + 1) f' w'))
structure BelowX (B b : Nat) (w w' : World) : Prop where
  os : w'.os = w.os
  tape : w'.tape = w.tape
  output : w'.output = w.output
  size : w.heap.size ≤ w'.heap.size
  block : ∀ k, k < B → k ≠ b → w'.heap[k]? = w.heap[k]?
theorem BelowX.of {B b : Nat} {w w' : World} (h : Below B w w') : BelowX B b w w' := ⟨h.os, h.tape, h.output, h.size, fun k hk _ => h.block k hk⟩
theorem BelowX.trans {B b : Nat} {w w' w'' : World} (h : BelowX B b w w') (k : BelowX B b w' w'') : BelowX B b w w'' :=
  ⟨k.os.trans h.os, k.tape.trans h.tape, k.output.trans h.output, Nat.le_trans h.size k.size, fun i hi hn => (k.block i hi hn).trans (h.block i hi hn)⟩
theorem BelowX.mono {B B' b : Nat} {w w' : World} (h : BelowX B b w w') (hB : B' ≤ B) : BelowX B' b w w' := ⟨h.os, h.tape, h.output, h.size, fun k hk hn => h.block k (by omega) hn⟩
theorem BelowX.below {B B' b : Nat} {w w' : World} (h : BelowX B b w w') (hB : B' ≤ B) (hb : B' ≤ b) : Below B' w w' := ⟨h.os, h.tape, h.output, h.size, fun k hk => h.block k (by omega) (by omega)⟩
def StaysX (B b : Nat) (J : Nat → (Nat → Prop) → World → Prop) : Prop := ∀ k f w w', J k f w → BelowX B b w w' → (∀ i, f i → w'.heap[i]? = w.heap[i]?) → J k f w'
theorem StaysX.below {B b : Nat} {J : Nat → (Nat → Prop) → World → Prop} (h : StaysX B b J) {k : Nat} {f : Nat → Prop} {w w' : World} (hJ : J k f w) (hf : ∀ i, f i → i < w.heap.size) (hB : B ≤ w.heap.size) (hb : Below w.heap.size w w') : J k f w' :=
  h k f w w' hJ (.of (hb.mono hB)) (fun i hi => hb.block i (hf i hi))
def orb (f : Nat → Prop) (b : Nat) : Nat → Prop := fun i => f i ∨ i = b
theorem Keep.orbs {f f' : Nat → Prop} {w w' : World} {b : Nat} (h : Keep f w f' w') : Keep (orb f b) w (orb f' b) w' := fun i hi hn => by
  have h1 := h i hi (fun h => hn (.inl h))
  exact ⟨fun h => h.elim h1.1 (fun e => hn (.inr e)), h1.2⟩
theorem Keep.off {f : Nat → Prop} {w w' : World} {b : Nat} (h : ∀ i, i ≠ b → w'.heap[i]? = w.heap[i]?) : Keep (orb f b) w (orb f b) w' := fun i _ hn => ⟨hn, h i (fun e => hn (.inr e))⟩
def OwnR {E : Type} (f : Nat → Prop) (w : World) (A : Option Addr) (size : Nat) (e : E → List Value) (xs : List E) : Prop :=
  ∀ k x, xs[k]? = some x → ∃ a, A = some a ∧ a.block < w.heap.size ∧ ¬ f a.block ∧ ∀ j u, (e x)[j]? = some u → w.cell? ((a.add (k * size)).add j) = some u
theorem OwnR.rd {E : Type} {f : Nat → Prop} {w : World} {A : Option Addr} {size : Nat} {e : E → List Value} {xs : List E} (h : OwnR f w A size e xs) : Rd w A size e xs := fun k x hx => let ⟨a, h1, h2, _, h3⟩ := h k x hx; ⟨a, h1, h2, h3⟩
theorem OwnR.keep {E : Type} {f f' : Nat → Prop} {w w' : World} {A : Option Addr} {size : Nat} {e : E → List Value} {xs : List E} (h : OwnR f w A size e xs) (hk : Keep f w f' w') : OwnR f' w' A size e xs := fun k x hx => by
  obtain ⟨a, h1, h2, h3, h4⟩ := h k x hx
  obtain ⟨a1, a2⟩ := hk _ h2 h3
  refine ⟨a, h1, lt_of_same h2 a2, a1, fun j u hu => ?_⟩
  rw [← h4 j u hu]
  exact World.cell?_of_block (by rw [addr_block, addr_block]; exact a2)
theorem Free.oldR {E : Type} {w0 w : World} {F : List Chunk} {f : Nat → Prop} {A : Option Addr} {size : Nat} {e : E → List Value} {xs : List E} (h : Free w0 F f w) (hR : Rd w0 A size e xs) : OwnR f w A size e xs := fun k x hx => by
  obtain ⟨a, h1, h2, _⟩ := hR k x hx
  obtain ⟨a', h1', h2', h3⟩ := hR.pass h.1 k x hx
  rw [h1] at h1'; cases h1'
  exact ⟨a, h1, h2', h.2.2 _ h2, h3⟩
theorem heap_ptr {w : World} {b : Nat} {t : TypeId} {cs : List Value} (h : w.heap[b]? = some (.cells cs.toArray t (0, 0))) : PtrL w [] ⟨b, 0, none⟩ cs :=
  PtrL.old (lt_of_some h) (fun j u hu => by
    rw [add_lit, Nat.zero_add, blk_cell (t := t) (cs := cs) (show (blk b t cs).holds w from h)]
    exact hu)
def IterX {α : Type} (P : Program) (g : FuncId) (first cap : List Value) (b : Nat) (pre : (Nat → Prop) → World → Prop) (enc : α → List Value) (XS : List α) : Prop :=
  ∀ (lr B : Nat) (J Jx : Nat → (Nat → Prop) → World → Prop) (f : Nat → Prop) (w : World), B ≤ w.heap.size → b < w.heap.size → StaysX B b J → StaysX B b Jx → (∀ k f w, J k f w → B ≤ w.heap.size) → (∀ k f w, Jx k f w → B ≤ w.heap.size) → (∀ i, f i → i < w.heap.size) → ¬ f b → RoundOK2 P lr enc XS J Jx → J 0 f w → pre f w →
    Calls P g (first ++ [Value.func (.yield lr) #[] #[]] ++ cap).toArray w fun e w' => (∃ v, e = .returned v) ∧ ((∃ f', J XS.length f' w') ∨ (∃ k f', k ≤ XS.length ∧ Jx k f' w'))
theorem rangeX {α : Type} {P : Program} {w0 : World} {L : List Chunk} {Q : Exit → Act → World → Prop} {l : List Value} {g : Operand} {ps : List Tmp} {assign body : Code} {gf : FuncId} {first cap : List Value} {pre : (Nat → Prop) → World → Prop} {enc : α → List Value} {XS : List α} {n : Nat} {D : List Deferred}
    (hg : ev l g = .func (.func gf) first.toArray cap.toArray) (hcal : callable P gf = true) (Lm F : List Chunk) {bx : Nat} {tx : TypeId} {cx : List Value} (hsp : ∀ w, St w0 L w → St w0 (Lm ++ (F ++ [blk bx tx cx])) w) (hF : ∀ c ∈ F, ∃ b t cs, c = blk b t cs) (hps : ∀ x, (enc x).length = ps.length) (hit : IterX P gf first cap bx pre enc XS) (hpre : ∀ f w, Free w0 F (orb f bx) w → w.heap[bx]? = some (.cells cx.toArray tx (0, 0)) → pre f w)
    (JL : Nat → List Chunk → Prop) (JX : Code → List Chunk → Prop) (h0 : JL 0 Lm)
    (round : ∀ k x L' lr E, XS[k]? = some x → (∀ b t cs, blk b t cs ∈ F → PtrL w0 [E] ⟨b, 0, none⟩ cs) → JL k L' → Hold w0 (L' ++ [E]) (assign.wpIn (fen (some lr)) 0 P (Exit.then (BodyC P w0 F JL JX k lr body E) (fun _ _ _ => False)) (frd [] (setP l ps (enc x)))))
    (done : ∀ b L', JL XS.length L' → Hold w0 (L' ++ (F ++ [dfr b])) (Q .normal (frd (mark b :: D) l)))
    (stop : ∀ b c L', JX c L' → Hold w0 (L' ++ (F ++ [dfr b])) (c.wpIn (fen none) n P Q (frd (mark b :: D) l))) :
    Hold w0 L ((Code.rangeFunc g ps.toArray assign body).wpIn (fen none) n P Q (frd D l)) := by
  intro w hw0
  have hwX := hsp w hw0
  have hw : St w0 (Lm ++ F) w := hwX.sub (List.Sublist.append (List.Sublist.refl _) (List.sublist_append_left _ _))
  have hbx0 : w0.heap.size ≤ bx := (hwX.2.1 (blk bx tx cx) (by simp)).2 bx rfl
  have hbxw : bx < w.heap.size := hwX.lt (c := blk bx tx cx) (by simp) rfl
  have hpX := List.pairwise_append.1 hwX.2.2
  have hpXF := List.pairwise_append.1 hpX.2.1
  have hbxL : ∀ c ∈ Lm, ¬ c.foot bx := fun c hc h => hpX.2.2 c hc (blk bx tx cx) (by simp) bx h rfl
  have hbxF : ∀ c ∈ F, ¬ c.foot bx := fun c hc h => hpXF.2.2 c hc (blk bx tx cx) (by simp) bx h rfl
  refine wpIn_rangeFunc ?_
  intro fn hfn
  obtain ⟨rc, hrc⟩ : ∃ rc : LoopState → Option Code → Loop, rc = fun st pe => { state := st, pending := pe, fn, tmps := l.toArray, params := ps.toArray, assign, body, defers := w.heap.size } := ⟨_, rfl⟩
  obtain ⟨W1, hW1⟩ : ∃ W1, (w.alloc (.deferred (some []))).alloc (.loop (rc .ready none)) = W1 := ⟨_, rfl⟩
  obtain ⟨rd, hrd⟩ : ∃ rd : Chunk, rd = both (obj (w.heap.size + 1) (.loop (rc .ready none))) (dfr w.heap.size) := ⟨_, rfl⟩
  have hst1' : St w0 ((Lm ++ F) ++ [rd]) W1 := by
    have hb1 : Below w.heap.size w W1 := by
      rw [← hW1]; exact ((Below.refl _ w).alloc (Nat.le_refl _) _).alloc (by simp) _
    refine st_snoc (st_below hw hb1) ?_ (fun k hk => ?_) (fun c hc k hk hk' => ?_)
    · subst hrd
      refine ⟨?_, ?_⟩
      · show W1.heap[w.heap.size + 1]? = _
        rw [← hW1]; have := World.alloc_heap_new (w.alloc (.deferred (some []))) (.loop (rc .ready none)); rwa [World.size_alloc] at this
      · show W1.heap[w.heap.size]? = _
        rw [← hW1]; exact (Below.heap_alloc _ _ _ (by simp)).trans (World.alloc_heap_new w _)
    · subst hrd
      have := hw.1.size
      rcases hk with hk | hk
      · have : k = w.heap.size + 1 := hk
        omega
      · have : k = w.heap.size := hk
        omega
    · subst hrd
      have := hw.lt hc hk
      rcases hk' with hk' | hk'
      · have : k = w.heap.size + 1 := hk'
        omega
      · have : k = w.heap.size := hk'
        omega
  have hst1 : St w0 (Lm ++ (F ++ [rd])) W1 := by rw [← List.append_assoc]; exact hst1'
  have hsub : ∀ {L' : List Chunk} {x : Chunk} {W : World}, St w0 (L' ++ (F ++ [x])) W → St w0 (L' ++ [x]) W := fun h => h.sub (List.Sublist.append (List.Sublist.refl _) (List.sublist_append_right _ _))
  have hfree : ∀ {L' : List Chunk} {W : World}, St w0 (L' ++ (F ++ [rd])) W → Free w0 F (foots (L' ++ [rd])) W := fun {L'} {W} h => by
    have hp := List.pairwise_append.1 h.2.2
    have hpF := List.pairwise_append.1 hp.2.1
    refine ⟨h.sub ((List.sublist_append_left F [rd]).trans (List.sublist_append_right _ _)), fun c hc i hi => ?_, fun i hi => ?_⟩
    · rintro ⟨d, hd, hdi⟩
      rcases List.mem_append.1 hd with hd | hd
      · exact hp.2.2 d hd c (by simp [hc]) i hdi hi
      · exact hpF.2.2 c hc d hd i hi hdi
    · rintro ⟨d, hd, hdi⟩
      have := ((hsub h).2.1 d hd).2 i hdi
      omega
  have hb1 : Below w.heap.size w W1 := by
    rw [← hW1]; exact ((Below.refl _ w).alloc (Nat.le_refl _) _).alloc (by simp) _
  have hsz1 : W1.heap.size = w.heap.size + 2 := by rw [← hW1]; simp
  have hbx1 : bx < W1.heap.size := Nat.lt_of_lt_of_le hbxw hb1.size
  have hbxf : ¬ foots (Lm ++ [rd]) bx := by
    rintro ⟨d, hd, hdi⟩
    rcases List.mem_append.1 hd with hd | hd
    · exact hbxL d hd hdi
    · simp at hd; subst hd; subst hrd
      rcases hdi with hdi | hdi
      · have : bx = w.heap.size + 1 := hdi
        omega
      · have : bx = w.heap.size := hdi
        omega
  have hfreeX : Free w0 F (orb (foots (Lm ++ [rd])) bx) W1 := by
    refine ⟨(hfree hst1).1, fun c hc i hi h => ?_, fun i hi h => ?_⟩
    · rcases h with h | h
      · exact (hfree hst1).2.1 c hc i hi h
      · exact hbxF c hc (h ▸ hi)
    · rcases h with h | h
      · exact (hfree hst1).2.2 i hi h
      · omega
  have hFW : ∀ c ∈ F, ∀ i, c.foot i → i < W1.heap.size := fun c hc i hi => hst1.lt (c := c) (by simp [hc]) hi
  refine ⟨w.heap.size + 1, [mark w.heap.size], W1, { target := .fn (.func gf) cap.toArray, args := first.toArray ++ #[Value.func (.yield (w.heap.size + 1)) #[] #[]] }, W1, gf,
    (first ++ [Value.func (.yield (w.heap.size + 1)) #[] #[]] ++ cap).toArray, W1, ?_, ?_, fun _ _ => trivial, ?_, fun h => (by cases h), ?_⟩
  · rw [← hW1, hrc]; exact run_enterLoop_outer _ _ _ _ _
  · have he : (frd D l).eval g = .func (.func gf) first.toArray cap.toArray := by rw [frd_eval]; exact hg
    simp only [resolve, he]
    simp [go_sem]
  · simp [invoke, go_sem, run_call hcal]
  · refine calls_fen ((hit (w.heap.size + 1) W1.heap.size
      (fun k f W => ∃ L', JL k L' ∧ St w0 (L' ++ (F ++ [rd])) W ∧ f = foots (L' ++ [rd]) ∧ ¬ f bx ∧ bx < W.heap.size)
      (fun k f W => ∃ c L', JX c L' ∧ St w0 (L' ++ (F ++ [both (obj (w.heap.size + 1) (.loop (rc .done (some c)))) (dfr w.heap.size)])) W ∧ f = foots (L' ++ [rd]) ∧ ¬ f bx ∧ bx < W.heap.size)
      (foots (Lm ++ [rd])) W1 (Nat.le_refl _) hbx1 ?_ ?_ ?_ ?_ ?_ hbxf ?_ ⟨Lm, h0, hst1, rfl, hbxf, hbx1⟩ (hpre _ _ hfreeX ((hwX.keep (hb1.mono hw.1.size) (fun c hc k hk => hb1.block k (hwX.lt hc hk))).2.1 (blk bx tx cx) (by simp)).1)).mono ?_)
    · rintro k f W W' ⟨L', h1, h2, rfl, hn, hlt⟩ hb hs
      refine ⟨L', h1, h2.keep (hb.below hst1.1.size hbx0) (fun c hc i hi => ?_), rfl, hn, Nat.lt_of_lt_of_le hlt hb.size⟩
      rcases List.mem_append.1 hc with hc | hc
      · exact hs i ⟨c, by simp [hc], hi⟩
      rcases List.mem_append.1 hc with hc | hc
      · exact hb.block i (hFW c hc i hi) (fun e => hbxF c hc (e ▸ hi))
      · exact hs i ⟨c, by simp [List.mem_singleton.1 hc], hi⟩
    · rintro k f W W' ⟨c0, L', h1, h2, rfl, hn, hlt⟩ hb hs
      refine ⟨c0, L', h1, h2.keep (hb.below hst1.1.size hbx0) (fun c hc i hi => ?_), rfl, hn, Nat.lt_of_lt_of_le hlt hb.size⟩
      rcases List.mem_append.1 hc with hc | hc
      · exact hs i ⟨c, by simp [hc], hi⟩
      rcases List.mem_append.1 hc with hc | hc
      · exact hb.block i (hFW c hc i hi) (fun e => hbxF c hc (e ▸ hi))
      · refine hs i ⟨rd, by simp, ?_⟩
        have := List.mem_singleton.1 hc
        subst this; subst hrd; exact hi
    · rintro k f W ⟨L', h1, h2, rfl, hn, hlt⟩
      have h3 := h2.lt (c := rd) (k := w.heap.size + 1) (by simp) (by subst hrd; exact .inl rfl)
      rw [hsz1]; omega
    · rintro k f W ⟨c0, L', h1, h2, rfl, hn, hlt⟩
      have h3 := h2.lt (c := both (obj (w.heap.size + 1) (.loop (rc .done (some c0)))) (dfr w.heap.size)) (k := w.heap.size + 1) (by simp) (.inl rfl)
      rw [hsz1]; omega
    · rintro i ⟨c, hc, hi⟩
      exact (hsub hst1).lt hc hi
    · -- one round
      rintro k x f W hx ⟨L', hJ, hstF, rfl, hbn, hblt⟩
      have hst := hsub hstF
      have hl : W.heap[w.heap.size + 1]? = some (.loop (rc .ready none)) := by
        have := (st_front hst).2.1
        subst hrd; exact this.1
      have hy := run_yield (P := P) (args := (enc x).toArray) hl (by rw [hrc]; simp [hps])
      have hy' : (Instr.yield (w.heap.size + 1) (enc x).toArray).run P W = .ok (.round (w.heap.size + 1) fn (setP l ps (enc x)).toArray assign body) W := by
        rw [hy, hrc]
        congr 2
        exact setP_arr l ps (enc x)
      refine ⟨fn, _, assign, body, hy', roundIn_of_wpIn trivial ?_⟩
      obtain ⟨ot, hot⟩ : ∃ ot : Chunk, ot = oth w0.heap.size (L' ++ [rd]) W := ⟨_, rfl⟩
      have hf := st_front hst
      have hE1 : St w0 (L' ++ [both rd ot]) W := by subst hot; exact fix_in hstF
      refine wide_seq (r := some (w.heap.size + 1)) (round k x L' (w.heap.size + 1) (both rd ot) hx (fun b t cs hm => by subst hot; exact fix_ptr hstF hm) hJ W hE1) ?_
      rintro e a1 w1 hp
      cases e with
      | normal =>
        obtain ⟨l2, L2, rfl, hst2, hbody⟩ := hp
        have hf2 := st_front hst2
        have hl2 : w1.heap[w.heap.size + 1]? = some (.loop (rc .ready none)) := by
          have h1 := hf2.2.1.1
          subst hrd; exact h1.1
        have hd2 : w1.heap[w.heap.size]? = some (.deferred (some [])) := by
          have h1 := hf2.2.1.1
          subst hrd; exact h1.2
        refine ⟨_, run_beginRound hl2 (by rw [hrc]), ?_⟩
        obtain ⟨rb, hrb⟩ : ∃ rb : Chunk, rb = both (obj (w.heap.size + 1) (.loop (rc .busy none))) (dfr w.heap.size) := ⟨_, rfl⟩
        have hlt : ∀ {W : World} {o : Obj}, W.heap[w.heap.size + 1]? = some o → w.heap.size + 1 < W.heap.size := fun h => lt_of_some h
        have hfoot : ∀ k, rb.foot k ↔ rd.foot k := fun k => by subst hrb; subst hrd; exact Iff.rfl
        have hrdl : rd.foot (w.heap.size + 1) := by subst hrd; exact .inl rfl
        have hrdd : rd.foot w.heap.size := by subst hrd; exact .inr rfl
        have hotn : ∀ {W' : World} {o : Obj}, ot.holds W' → ot.holds (W'.putObj (w.heap.size + 1) o) := fun h => by
          refine ot.loc _ _ h (fun k hk => World.putObj_heap_other (fun e => ?_))
          subst hot; subst e
          exact hk.2.2 ⟨rd, by simp, hrdl⟩
        have hst3 : St w0 (L2 ++ [both rb ot]) (w1.putObj (w.heap.size + 1) (.loop (rc .busy none))) := by
          refine st_put hst2 (.inl hrdl) ⟨?_, hotn hf2.2.1.2⟩ (fun k hk => ?_)
          · subst hrb
            exact ⟨World.putObj_heap_same (hlt hl2), (World.putObj_heap_other (by omega)).trans hd2⟩
          · rcases hk with hk | hk
            · exact .inl ((hfoot k).1 hk)
            · exact .inr hk
        have e0 : ({ rc .ready none with state := .busy } : Loop) = rc .busy none := by rw [hrc]
        rw [e0]
        refine wide_seq (r := some (w.heap.size + 1)) (hbody (both rb ot) (fun b t cs hm => by subst hot; exact fix_ptr hstF hm) _ hst3) ?_
        -- what a round's end owes
        have fin : ∀ (jump : Option Code) (w3 : World) (L3 : List Chunk), St w0 (L3 ++ [both rb ot]) w3 →
            (Instr.endRound (w.heap.size + 1) jump).run P w3 = .ok (.bool jump.isNone) (w3.putObj (w.heap.size + 1) (.loop (rc (if jump.isNone then .ready else .done) jump))) ∧
            St w0 (L3 ++ (F ++ [both (obj (w.heap.size + 1) (.loop (rc (if jump.isNone then .ready else .done) jump))) (dfr w.heap.size)])) (w3.putObj (w.heap.size + 1) (.loop (rc (if jump.isNone then .ready else .done) jump))) ∧
            Grew (foots (L' ++ [rd])) W (foots (L3 ++ [rd])) ∧ Kept (foots (L' ++ [rd])) W (w3.putObj (w.heap.size + 1) (.loop (rc (if jump.isNone then .ready else .done) jump))) ∧
            ∀ i, foots (L3 ++ [rd]) i → i < (w3.putObj (w.heap.size + 1) (.loop (rc (if jump.isNone then .ready else .done) jump))).heap.size := by
          intro jump w3 L3 hst4
          have hf4 := st_front hst4
          have h1 := hf4.2.1.1
          have hl4 : w3.heap[w.heap.size + 1]? = some (.loop (rc .busy none)) := by subst hrb; exact h1.1
          have hd4 : w3.heap[w.heap.size]? = some (.deferred (some [])) := by subst hrb; exact h1.2
          have hst5 : St w0 ((L3 ++ F) ++ [rb]) w3 := by
            rw [List.append_assoc]; subst hot; exact fix_expand hF hfoot hstF hst4
          have hs4 : St w0 (L3 ++ (F ++ [both (obj (w.heap.size + 1) (.loop (rc (if jump.isNone then .ready else .done) jump))) (dfr w.heap.size)])) (w3.putObj (w.heap.size + 1) (.loop (rc (if jump.isNone then .ready else .done) jump))) := by
            rw [← List.append_assoc]
            refine st_put hst5 ((hfoot _).2 hrdl) ⟨World.putObj_heap_same (hlt hl4), (World.putObj_heap_other (by omega)).trans hd4⟩ (fun k hk => (hfoot k).2 ?_)
            subst hrd; exact hk
          refine ⟨?_, hs4, ?_, ?_, ?_⟩
          · have := run_endRound (P := P) jump hl4
            rw [this, hrc]
          · rintro i ⟨c, hc, hi⟩
            by_cases hfi : foots (L' ++ [rd]) i
            · exact .inl hfi
            · refine .inr (Nat.le_of_not_lt fun hlt' => ?_)
              rcases List.mem_append.1 hc with hc | hc
              · refine hf4.2.2.2 c hc i hi (.inr ?_)
                subst hot
                exact ⟨(hst4.2.1 c (by simp [hc])).2 i hi, hlt', hfi⟩
              · simp at hc; subst hc; exact hfi ⟨c, by simp, hi⟩
          · intro i hi hni
            have hne : i ≠ w.heap.size + 1 := fun e => hni ⟨rd, by simp, by subst e; exact hrdl⟩
            rw [World.putObj_heap_other (by omega)]
            rcases Nat.lt_or_ge i w0.heap.size with h2 | h2
            · rw [hst4.1.block i h2, hst.1.block i h2]
            · have h3 := hf4.2.1.2
              subst hot
              exact h3 i h2 hi hni
          · rintro i ⟨c, hc, hi⟩
            have hs4' := hsub hs4
            rcases List.mem_append.1 hc with hc | hc
            · exact hs4'.lt (c := c) (by simp [hc]) hi
            · simp at hc
              refine hs4'.lt (c := both (obj (w.heap.size + 1) (.loop (rc (if jump.isNone then .ready else .done) jump))) (dfr w.heap.size)) (by simp) ?_
              subst hc; subst hrd; exact hi
        rintro e a3 w3 hq
        cases e with
        | normal =>
          obtain ⟨L3, hJ3, hst4⟩ := hq
          obtain ⟨hr, hs, hgr, hk, hlt3⟩ := fin none w3 L3 hst4
          exact ⟨_, _, hr, _, hgr, hk, hlt3, .inl ⟨rfl, L3, hJ3, by subst hrd; exact hs, rfl, fun h => (hgr _ h).elim hbn (fun h => by omega), lt_of_same hblt (hk bx hblt hbn)⟩⟩
        | ret =>
          obtain ⟨L3, hJ3, hst4⟩ := hq
          obtain ⟨hr, hs, hgr, hk, hlt3⟩ := fin (some .ret) w3 L3 hst4
          exact ⟨_, _, hr, _, hgr, hk, hlt3, .inr ⟨rfl, _, L3, hJ3, hs, rfl, fun h => (hgr _ h).elim hbn (fun h => by omega), lt_of_same hblt (hk bx hblt hbn)⟩⟩
        | exit id =>
          obtain ⟨L3, hJ3, hst4⟩ := hq
          obtain ⟨hr, hs, hgr, hk, hlt3⟩ := fin (some (.exit id)) w3 L3 hst4
          exact ⟨_, _, hr, _, hgr, hk, hlt3, .inr ⟨rfl, _, L3, hJ3, hs, rfl, fun h => (hgr _ h).elim hbn (fun h => by omega), lt_of_same hblt (hk bx hblt hbn)⟩⟩
        | _ => exact (show False from hq).elim
      | _ => exact (show False from hp).elim
    · -- the function has returned
      rintro e w3 ⟨⟨v, rfl⟩, hh⟩
      have hdef : ({ frd D l with defers := [mark w.heap.size] ++ (frd D l).defers } : Act) = frd (mark w.heap.size :: D) l := rfl
      rw [hdef]
      rcases hh with ⟨f', L', hJ, hstF, _⟩ | ⟨k, f', _, c, L', hJ, hstF, _⟩
      · have hf := st_front (hsub hstF)
        have hl3 : w3.heap[w.heap.size + 1]? = some (.loop (rc .ready none)) := by
          have h1 := hf.2.1
          subst hrd; exact h1.1
        have hd3 : w3.heap[w.heap.size]? = some (.deferred (some [])) := by
          have h1 := hf.2.1
          subst hrd; exact h1.2
        have hend := run_endLoop (P := P) hl3 (by rw [hrc]; simp)
        refine ⟨_, _, hend, ?_⟩
        have e1 : (rc .ready none).pending = none := by rw [hrc]
        rw [e1]
        refine done _ L' hJ _ ?_
        rw [← List.append_assoc] at hstF ⊢
        exact st_put hstF (by subst hrd; exact .inl rfl) ((World.putObj_heap_other (by omega)).trans hd3) (fun k hk => by subst hrd; exact .inr hk)
      · have hf := st_front (hsub hstF)
        have hl3 : w3.heap[w.heap.size + 1]? = some (.loop (rc .done (some c))) := hf.2.1.1
        have hd3 : w3.heap[w.heap.size]? = some (.deferred (some [])) := hf.2.1.2
        have hend := run_endLoop (P := P) hl3 (by rw [hrc]; simp)
        refine ⟨_, _, hend, ?_⟩
        have e1 : (rc .done (some c)).pending = some c := by rw [hrc]
        rw [e1]
        refine stop _ c L' hJ _ ?_
        rw [← List.append_assoc] at hstF ⊢
        exact st_put hstF (.inl rfl) ((World.putObj_heap_other (by omega)).trans hd3) (fun k hk => .inr hk)
theorem yield_steps {α : Type} {P : Program} {lr : Nat} {enc : α → List Value} {XS : List α} {J Jx : Nat → (Nat → Prop) → World → Prop} (hR : RoundOK2 P lr enc XS J Jx) {k : Nat} {x : α} {f : Nat → Prop} {w : World} (hx : XS[k]? = some x) (hJ : J k f w) :
    YieldAt (fen none) 0 P lr (enc x).toArray w (fun e w' => ∃ b, e = .returned (.bool b) ∧ Step2 XS J Jx k f w b w') := by
  obtain ⟨fn, tmps, assign, body, h1, h2⟩ := hR k x f w hx hJ
  refine ⟨fn, tmps, assign, body, h1, h2.mono ?_⟩
  rintro e w' ⟨f', hg, hk, hl, h⟩
  rcases h with ⟨he, h⟩ | ⟨he, h⟩
  · exact ⟨true, he, .inl ⟨rfl, f', h, Keep.of hg hk, hg, hl⟩⟩
  · exact ⟨false, he, .inr ⟨rfl, k + 1, f', (List.getElem?_eq_some_iff.1 hx).1, h, Keep.of hg hk, hg, hl⟩⟩
def RoundEndN (Inv : Nat → List Value → World → Prop) (m : Nat) (wi wr : List Nat) (l : List Value) : Act → World → Prop :=
  fun a w' => ∃ m' vi' vr', a = frd [] (setF vr' (setM l wi vi') wr) ∧ Inv m' vi' w' ∧ m' < m
theorem loopN {P : Program} {w0 : World} {L : List Chunk} {Q : Exit → Act → World → Prop} {l : List Value} {x : Code} {n : Nat} (wi wr : List Nat) (Inv : Nat → List Value → World → Prop) (n0 : Nat) (h0 : ∀ w, St w0 L w → Inv n0 (wi.map (nth l)) w)
    (round : ∀ m vi vr W, Inv m vi W → Hold W [] (x.wpIn (fen none) n P (Exit.then (RoundEndN Inv m wi wr l) Q) (frd [] (setF vr (setM l wi vi) wr)))) :
    Hold w0 L ((Code.loop x).wpIn (fen none) n P Q (frd [] l)) := by
  intro w hw
  refine wpIn_loop_ghost (fun n a w => ∃ vi vr, a = frd [] (setF vr (setM l wi vi) wr) ∧ Inv n vi w) _ ⟨_, nth l, by rw [setM_self, setF_self], h0 w hw⟩ ?_
  rintro n a w ⟨vi, vr, rfl, hJ⟩
  refine wpIn_mono (round n vi vr w hJ w (St.start w)) (fun e a' w' hq => ?_)
  cases e with
  | normal =>
    obtain ⟨m', vi', vr', rfl, hJ', hlt⟩ := hq
    exact ⟨_, hlt, vi', vr', rfl, hJ'⟩
  | _ => exact hq
theorem roundN {w0 : World} {L : List Chunk} {Q : Exit → Act → World → Prop} {Inv : Nat → List Value → World → Prop} {wi wr : List Nat} {l0 l : List Value} {m : Nat} (m' : Nat) (vi' : List Value) (hJ : ∀ w, St w0 L w → Inv m' vi' w) (hμ : m' < m) (he : l = setF (nth l) (setM l0 wi vi') wr) :
    Hold w0 L (Exit.then (RoundEndN Inv m wi wr l0) Q .normal (frd [] l)) := fun w hw => ⟨m', vi', nth l, by rw [← he], hJ w hw, hμ⟩
section
variable {r : Option Nat} {n : Nat} {P : Program} {w0 : World} {L : List Chunk} {D : List Deferred} {ops : Array Oper} {Q : Exit → Act → World → Prop} {rest : List Oper} {l : List Value} {o : Oper} {v : Value} {id : Nat}
theorem lseq_yield2 {d : Option Tmp} {ty : TypeId} {ps : String} {af : Array Edge} {g : Option (Nat × Bool)} {x : Operand} {ys : List Operand} {lr : Nat} {us : List Value} {ts : Array TypeId} {post : World → Bool → World → Prop} (hx : ev l x = .func (.yield lr) #[] #[]) (hy : ys.map (ev l) = us)
    (hg : wantL ops.toList l g = true) (hc : ∀ w, St w0 L w → YieldAt (fen none) 0 P lr us.toArray w (fun e w' => ∃ b, e = .returned (.bool b) ∧ post w b w'))
    (k : ∀ w, St w0 L w → ∀ b w', post w b w' → Hold w' [] (wpListIn (fen r) n P ops Q rest (frd D (setd l d (.bool b))))) : Hold w0 L (wpListIn (fen r) n P ops Q (⟨d, .call { callee := .value x, args := ys.toArray, argTypes := ts }, ty, ps, af, g⟩ :: rest) (frd D l)) := by
  intro w hw
  unfold wpListIn
  have hyl : Region.wanted ⟨d, .call { callee := .value x, args := ys.toArray, argTypes := ts }, ty, ps, af, g⟩ (yielded ops (frd D l).tmps) = wantL ops.toList l g := wanted_eq ops l _
  rw [if_pos (by rw [hyl]; exact hg)]
  refine ⟨fun _ _ => trivial, ?_⟩
  have hs : (⟨d, .call { callee := .value x, args := ys.toArray, argTypes := ts }, ty, ps, af, g⟩ : Oper).semAt (fen r).round (frd D l).eval = execOp (ev l) ⟨d, .call { callee := .value x, args := ys.toArray, argTypes := ts }, ty, ps, af, g⟩ := by
    rw [frd_eval]
    cases r with
    | none => rfl
    | some l' => exact Oper.semAt_some l' (ev l) _ (fun c hc => by cases hc)
  obtain ⟨fn, tmps, assign, body, hrun, hround⟩ := hc w hw
  rw [hs]
  have hexec : (execOp (ev l) ⟨d, .call { callee := .value x, args := ys.toArray, argTypes := ts }, ty, ps, af, g⟩).run P w = .ok (.round lr fn tmps assign body) w := by
    have e2 : ys.toArray.map (ev l) = us.toArray := by rw [← hy]; simp
    simp only [execOp, resolve, hx, e2, Deferred.ofValue, Sem.run_bind, Sem.run_pure, Result.andThen_ok, invoke]
    simp [hrun]
  rw [hexec]
  refine ⟨fun h => (by cases h), (round_fen hround).mono ?_⟩
  rintro e w' ⟨b, rfl, h⟩
  show wpListIn (fen r) n P ops Q rest ((frd D l).put d (.bool b)) w'
  rw [frd_put]
  exact k w hw b w' h w' (St.start w')
end
section
variable {P : Program} {w0 : World} {L : List Chunk} {ops : Array Oper} {Q : Exit → Act → World → Prop} {rest : List Oper} {l : List Value} {d : Option Tmp} {ty : TypeId} {ps : String} {af : Array Edge} {g : Option (Nat × Bool)}
theorem store_old {w : World} {t n b i : Nat} {e : TypeId} {x y : Operand} {cs : List Value} (hn : sz P t = some n) (hx : ev l x = .pointer (some ⟨b, i, none⟩)) (hlen : (cl (ev l y)).length = n) (hfit : i + n ≤ cs.length)
    (h1 : (cl (ev l y)).all Value.oneCell' = true) (hh : w.heap[b]? = some (.cells cs.toArray e (0, 0))) :
    OpT P ⟨d, .store t x y, ty, ps, af, g⟩ l w (fun _ w' => w' = w.setRow b (over cs i (cl (ev l y))).toArray) := by
  have hst := run_storeCells_at P b i e (cl (ev l y)) 0 cs.toArray w hh (by simp; omega) (by simpa using h1)
  simp only [Nat.add_zero] at hst
  rw [← over_eq _ _ _ (by omega)] at hst
  refine OpT.of_skip (w' := w.setRow b (over cs i (cl (ev l y))).toArray) ?_ rfl
  unfold sz at hn
  cases hi : P.info? t with
  | none => simp [hi] at hn
  | some q =>
    have hs : q.size = n := by simpa [hi] using hn
    have hcs : (ev l y).cells.size = n := by rw [← hlen, ← cells_cl]; simp
    simp [execOp, hx, Instr.storeAt, Instr.sureAddr, storeVar, sizeOf, typeInfo, hi, hs, hcs, cells_cl, hst]
theorem seq_old {t n b i : Nat} {e : TypeId} {x y : Operand} {cs : List Value} (hn : sz P t = some n) (hx : ev l x = .pointer (some ⟨b, i, none⟩)) (hlen : (cl (ev l y)).length = n) (hfit : i + n ≤ cs.length)
    (h1 : (cl (ev l y)).all Value.oneCell' = true) (hg : wantL ops.toList l g = true) (hd : d = none) (hh : ∀ w, St w0 L w → w.heap[b]? = some (.cells cs.toArray e (0, 0)))
    (k : ∀ w w', St w0 L w → w'.heap[b]? = some (.cells (over cs i (cl (ev l y))).toArray e (0, 0)) → (∀ i, i ≠ b → w'.heap[i]? = w.heap[i]?) → (∀ B, BelowX B b w w') → Hold w' [] (wpList P ops Q rest (fr l))) :
    Hold w0 L (wpList P ops Q (⟨d, .store t x y, ty, ps, af, g⟩ :: rest) (fr l)) :=
  seq_op (R := fun w v w' => w' = w.setRow b (over cs i (cl (ev l y))).toArray) hg (fun w hw => store_old hn hx hlen hfit h1 (hh w hw)) (fun w hw v w' hR => by
    subst hR; subst hd
    have hgr := grownBy_setRow w b (over cs i (cl (ev l y))).toArray
    have hne : ∀ j, j ≠ b → (w.setRow b (over cs i (cl (ev l y))).toArray).heap[j]? = w.heap[j]? := fun j hj => by
      simp only [World.setRow, Array.getElem?_modify]
      rw [if_neg (fun e => hj e.symm)]
    exact k w _ hw (setRow_heap w b cs.toArray _ e (0, 0) (hh w hw)) hne (fun B => ⟨hgr.os, hgr.tape, hgr.output, hgr.size, fun j _ hj => hne j hj⟩) _ (St.start _))
end
end Go.R

namespace Go.K
open Go.RowKit
theorem row_holds {v : Value} {e : TypeId} {size n : Nat} {xs : List Value} {w : World} : (row v e size n xs).holds w ↔ w.ownsRow 0 e size v n xs := Iff.rfl
theorem row_foot {v : Value} {e : TypeId} {size n k : Nat} {xs : List Value} : (row v e size n xs).foot k ↔ v.ownBlock = some k := Iff.rfl
def mk1 (P : Program) (t : TypeId) : Option (TypeId × Nat × Value) :=
  match P.underlying t with
  | some (.slice e) => match P.info? e with
    | some i => match i.zero with
      | some z => if z.cells.size = 1 ∧ i.size = 1 then some (e, i.bytes, z.cells[0]!) else none
      | none => none
    | none => none
  | _ => none
theorem mk1_spec {P : Program} {t e b : Nat} {u : Value} (h : mk1 P t = some (e, b, u)) : ∃ i z, P.underlying t = some (.slice e) ∧ P.info? e = some i ∧ i.zero = some z ∧ i.size = 1 ∧ i.bytes = b ∧ z.cells = #[u] := by
  unfold mk1 at h
  split at h
  · rename_i e' hs
    split at h
    · rename_i i hi
      split at h
      · rename_i z hz
        split at h
        · rename_i hc
          simp only [Option.some.injEq, Prod.mk.injEq] at h
          obtain ⟨rfl, rfl, rfl⟩ := h
          refine ⟨i, z, hs, hi, hz, hc.2, rfl, ?_⟩
          apply Array.ext
          · simp [hc.1]
          · intro j h1 h2
            have : j = 0 := by simp at h2; omega
            subst this
            simp [hc.1]
        · cases h
      · cases h
    · cases h
  · cases h
theorem made1 (u : Value) (n : Nat) : madeCells #[u] n = (List.replicate n u).toArray := by
  apply Array.ext
  · simp [madeCells]
  · intro j h1 h2
    simp [madeCells, Nat.mod_one]
section
variable {P : Program} {w0 : World} {L L' : List Chunk} {l : List Value} {d : Option Tmp} {ty : TypeId} {ps : String} {af : Array Edge} {g : Option (Nat × Bool)}
theorem mkSlice {t e bytes n : Nat} {u : Value} {x y : Operand} (h : mk1 P t = some (e, bytes, u)) (hx : ev l x = .int .i64 (n : Int)) (hy : ev l y = .int .i64 (n : Int)) (hb : bytes * n ≤ 281474976710656) (hn : n ≤ 281474976710656) :
    Loud P w0 L ⟨d, .makeSlice t x y, ty, ps, af, g⟩ l (fun _ : Nat => True) (fun b => .slice (some ⟨b, 0, none⟩) n n) (fun b => [blk b e (List.replicate n u)]) := fun F w _ hw => by
  obtain ⟨i, z, hs, hi, hz, h1, h2, h3⟩ := mk1_spec h
  refine OpT.of_run (w' := w.alloc (.cells (List.replicate n u).toArray e)) ?_ ⟨w.heap.size, trivial, rfl, hw.new e (List.replicate n u)⟩
  have hb' : (i.bytes : Int) * (n : Int) ≤ 281474976710656 := by
    rw [h2]
    have : ((bytes * n : Nat) : Int) ≤ 281474976710656 := by omega
    rwa [Int.natCast_mul] at this
  have hr := run_make (P := P) w t e i z hs hi hz .i64 .i64 n n (by omega) (Int.le_refl _) hb' (by omega)
  rw [h3, h1, Int.toNat_natCast, Nat.mul_one, made1] at hr
  simp only [execOp, hx, hy, Sem.run_bind, hr, Sem.run_pure, Result.andThen_ok]
theorem rep_int {n : Nat} {z : Int} : List.replicate n (Value.int .i64 z) = (List.replicate n z).flatMap eI := by
  induction n with
  | zero => rfl
  | succ n ih => rw [List.replicate_succ, List.replicate_succ, List.flatMap_cons, ih]; rfl
theorem andnot_int {xt yt : TypeId} {x y : Operand} {k : IntKind} {m n : Int} (hx : ev l x = .int k m) (hy : ev l y = .int k n) : Pure P ⟨d, .binOp .andNot xt x y yt, ty, ps, af, g⟩ l (.int k (k.wrap (BitVec.ofInt k.bits m &&& ~~~BitVec.ofInt k.bits n).toNat)) := fun w => by
  simp [execOp, hx, hy, binOp, eqGuard, Op.intBits]
theorem row_shrink {A : Option Addr} {n m c e size : Nat} {xs : List Value} {G : World → Prop} (hr : Rep (row (.slice A n c) e size n xs) (row (.slice A m c) e size m (xs.take (m * size))) L L') (hm : m ≤ n) (k : Hold w0 L' G) : Hold w0 L G := fun w hw => by
  have ho : w.ownsRow 0 e size (.slice A n c) n xs := (hw.2.1 _ hr.mem).1
  refine k w (hw.upd (row := none) hr ⟨rfl, rfl, rfl, Nat.le_refl _, fun _ _ _ => rfl⟩ (fun _ h => by cases h) ?_ (fun q hq => .inl ?_))
  · obtain ⟨hl, hd⟩ := ho
    have hml : m * size ≤ n * size := Nat.mul_le_mul_right _ hm
    refine ⟨by rw [List.length_take]; omega, ?_⟩
    rcases hd with ⟨hv, h0⟩ | ⟨gg, cap, cur, hv, hb, hh, h2, h3, h4, h5⟩
    · injection hv with e1 _ e3
      subst e1; subst e3
      exact .inl ⟨by rw [show m = 0 by omega], by omega⟩
    · injection hv with e1 _ e3
      subst e1; subst e3
      refine .inr ⟨gg, c, cur, rfl, hb, hh, by omega, h3, h4, ?_⟩
      rw [← h5, List.take_take, Nat.min_eq_left hml]
  · cases A with
    | none => simp [row, Value.ownBlock] at hq
    | some a => exact hq
theorem row_pop {A : Option Addr} {n c e : Nat} {xs : List Value} {v : Value} {G : World → Prop} (hr : Rep (row (.slice A (n + 1) c) e 1 (n + 1) (xs ++ [v])) (row (.slice A n c) e 1 n xs) L L') (hl : xs.length = n) (k : Hold w0 L' G) : Hold w0 L G := by
  have e1 : (xs ++ [v]).take (n * 1) = xs := by rw [Nat.mul_one, ← hl, List.take_left]
  have hr2 : Rep (row (.slice A (n + 1) c) e 1 (n + 1) (xs ++ [v])) (row (.slice A n c) e 1 n ((xs ++ [v]).take (n * 1))) L L' := by rw [e1]; exact hr
  exact row_shrink hr2 (Nat.le_succ n) k
theorem slice_hm {t et size n c : Nat} {x y z : Operand} {A : Option Addr} {k k' : IntKind} (hs : sl P t = some (et, size)) (hx : ev l x = .slice A n c) (hy : ev l y = .int k (n : Int)) (hz : ev l z = .int k' (n : Int)) (h1 : n ≤ c) :
    Pure P ⟨d, .slice t x none (some y) (some z), ty, ps, af, g⟩ l (.slice A n n) := fun w => by
  obtain ⟨hu, he⟩ := elem_sl hs
  obtain ⟨i, _, hi, hn⟩ := sl_spec hs
  have := run_slice_hm (P := P) w t A n c hu k k' (n : Int) (n : Int) (by omega) (by omega) (by omega)
  have e0 : A.map (fun a => a.add (0 * size)) = A := by cases A <;> simp [addr_add0]
  simp only [execOp, Option.map_some, Option.map_none, hx, hy, hz, run_sliceAt_slice w t _ none _ _ hu, this, sizeOf, typeInfo, he, hi, hn, Sem.run_bind, run_program, Sem.run_pure, Result.andThen_ok, sliced, Nat.sub_zero, Int.toNat_natCast, e0, ite_self]
theorem appendN {t ty' e size bytes n m c' : Nat} {A : Option Addr} {ad : Addr} {s x : Operand} {E : Type} {enc : E → List Value} {xs : List E} {news : List Value} {M : List Chunk} (ht : el P t = some (e, size, bytes)) (hs : ev l s = .slice A n n) (hx : ev l x = .slice (some ad) m c')
    (hold : Sl w0 M A size enc xs) (hM : ∀ c ∈ M, c ∈ L) (hA : xs.length = 0 ∨ ∃ b, A = some ⟨b, 0, none⟩) (hn : xs.length = n) (hle : ∀ x, (enc x).length = size)
    (hp : PtrL w0 L ad news) (hl : news.length = m * size) (hm : 0 < m) (hb : (n + m) * bytes ≤ 140737488355328) (hb' : n + m ≤ 140737488355328) :
    Loud P w0 L ⟨d, .call { callee := .builtin .append, args := #[s, x], argTypes := #[t, t] }, ty', ps, af, g⟩ l (fun _ : Nat × Nat => True) (fun r => .slice (some ⟨r.1, 0, none⟩) (n + m) r.2) (fun r => [row (.slice (some ⟨r.1, 0, none⟩) (n + m) r.2) e size (n + m) (xs.flatMap enc ++ news)]) := fun F w hF hw => by
  obtain ⟨i, z, hu, hi, hz, hsi, hby, hzs, hpos⟩ := el_spec ht
  subst hsi hby hn
  have hlo : (xs.flatMap enc).length = xs.length * i.size := flat_len hle xs
  have hnw := hp F w hF hw
  have hlen : (xs.flatMap enc ++ news).length = (xs.length + m) * i.size := by rw [List.length_append, hlo, hl, Nat.add_mul]
  have key : ∀ old, old ≤ xs.length → (Builtin.append_ #[t, t] ty' #[.slice A xs.length xs.length, .slice (some ad) m c']).run P w =
      .ok (.slice (some ⟨w.heap.size, 0, none⟩) (xs.length + m) (grownCap w (xs.length + m) old e)) (w.drew.alloc (.cells ((xs.flatMap enc).toArray ++ news.toArray ++ Builtin.zeroCells z.cells (grownCap w (xs.length + m) old e - (xs.length + m))) e)) →
      OpT P ⟨d, .call { callee := .builtin .append, args := #[s, x], argTypes := #[t, t] }, ty', ps, af, g⟩ l w (fun v w' => ∃ r : Nat × Nat, True ∧ v = .slice (some ⟨r.1, 0, none⟩) (xs.length + m) r.2 ∧ St w0 ([row (.slice (some ⟨r.1, 0, none⟩) (xs.length + m) r.2) e i.size (xs.length + m) (xs.flatMap enc ++ news)] ++ F) w') := fun old ho hr => by
    have hge := grownCap_ge w (xs.length + m) old e
    have hcm : grownCap w (xs.length + m) old e ≤ maxLen := grownCap_le_maxLen w (xs.length + m) old e (by simp only [maxLen]; omega)
    refine OpT.of_run (w' := w.drew.alloc (.cells ((xs.flatMap enc).toArray ++ news.toArray ++ Builtin.zeroCells z.cells (grownCap w (xs.length + m) old e - (xs.length + m))) e)) ?_ ⟨(w.heap.size, grownCap w (xs.length + m) old e), trivial, rfl, ?_⟩
    · simp only [execOp, resolve, invoke, builtin, Sem.run_bind, Sem.run_pure, Result.andThen_ok, List.map_toArray, List.map_cons, List.map_nil, hs, hx, hr]
    · have hbe : Below w.heap.size w (w.drew.alloc (.cells ((xs.flatMap enc).toArray ++ news.toArray ++ Builtin.zeroCells z.cells (grownCap w (xs.length + m) old e - (xs.length + m))) e)) := (Below.refl _ w).drew.alloc (by simp) _
      have hst := hw.keep (hbe.mono hw.1.size) (fun c hc k hk => hbe.block k (hw.lt hc hk))
      refine ⟨hst.1, fun c hc => ?_, ?_⟩
      · rcases List.mem_append.1 hc with hc | hc
        · simp at hc; subst hc
          refine ⟨⟨hlen, .inr ⟨w.heap.size, _, _, rfl, Nat.zero_le _, heap_alloc_new w.drew _, hge, hcm, ?_, ?_⟩⟩, fun k hk => ?_⟩
          · simp only [Array.size_append, List.size_toArray, size_zeroCells, hzs, hlo, hl, ← Nat.add_mul]
            congr 1
            omega
          · simp only [Array.toList_append, List.append_assoc]
            rw [← List.append_assoc, ← hlen]
            exact List.take_left
          · have : w.heap.size = k := by simpa [row, Value.ownBlock] using hk
            have := hw.1.size
            omega
        · exact hst.2.1 c hc
      · refine List.pairwise_append.2 ⟨by simp, hst.2.2, fun c hc c2 hc2 k hk hk2 => ?_⟩
        simp at hc; subst hc
        have e1 : w.heap.size = k := by simpa [row, Value.ownBlock] using hk
        have := hw.lt hc2 hk2
        omega
  cases A with
  | none =>
    have h0 : xs = [] := by
      rcases hA with h | ⟨b, h⟩
      · exact List.eq_nil_of_length_eq_zero h
      · cases h
    subst h0
    refine key 0 (Nat.le_refl _) ?_
    have hr := run_append_nil (P := P) w t ty' e i z hu hi hz ad m c' news hl hnw hm (by omega) (by
      have hb2 := hb
      simp only [List.length_nil, Nat.zero_add] at hb2; omega)
    simpa using hr
  | some a =>
    refine key xs.length (Nat.le_refl _) ?_
    have holds : ∀ j u, (xs.flatMap enc)[j]? = some u → w.cell? (a.add j) = some u := (hold.ptr hle hpos) F w (fun c hc => hF _ (hM c hc)) hw
    exact run_append_grow (P := P) w t ty' e i z hu hi hz a xs.length xs.length (xs.flatMap enc) hlo holds ad m c' news hl hnw (by omega) (by omega) (growslice_fits (by omega) hb)
end
end Go.K
end
section
set_option linter.unusedSimpArgs false
set_option linter.unusedVariables false
namespace Go.Proofs.YtekkpcpbnonkaaaGreatDoor.Rv
open Go.RowKit Go
open Go.K (setd setn ev nth over cl eI eP eT setM setF)
attribute [local irreducible] K.blk K.row
def curS (r : List RvT) (i k : Nat) : Int := if k ≤ dep r i then ((stps r k i : Nat) : Int) else -1
theorem cur_yes {r : List RvT} {i k : Nat} (g : Good r) (hi : i < r.length) (h : curS r i k ≠ -1) : k ≤ dep r i ∧ curS r i k = ((stps r k i : Nat) : Int) := by
  unfold curS at h ⊢
  split at h
  · rename_i hk; exact ⟨hk, if_pos hk⟩
  · exact absurd rfl h
theorem cur_no {r : List RvT} {i k : Nat} (h : curS r i k = -1) : dep r i < k := by
  unfold curS at h
  split at h
  · omega
  · omega
theorem cur_next {r : List RvT} {i k : Nat} (g : Good r) (hi : i < r.length) (hk : k ≤ dep r i) : curS r i (k + 1) = (r.getD (stps r k i) default).dn := by
  have hd := dep_is g hi
  unfold curS
  by_cases h : k + 1 ≤ dep r i
  · have := hd.2.2 k (by omega)
    have h2 := g.p _ (stps_lt g hi k)
    rw [if_pos h, stps_up this]; omega
  · have e : k = dep r i := by omega
    subst e
    rw [if_neg h, hd.2.1]
theorem drop_next {r : List RvT} {i k : Nat} (g : Good r) (hi : i < r.length) : DM r i - DM r (stps r k i) + (r.getD (stps r k i) default).ls = DM r i - DM r (stps r (k + 1) i) := by
  have hl := stps_lt g hi k
  by_cases h : (r.getD (stps r k i) default).dn = -1
  · have := (g.p _ hl).2.2 h
    rw [stps_st h]; omega
  · have := DM_d g hl h
    rw [stps_up h]; omega

set_option maxRecDepth 100000 in
theorem c57 {i : Int} {r : List RvT} {A : Option Addr} {c : Nat} (w : World) :
    Calls Tryz.prog 37 [.slice A r.length c, .int .i64 i].toArray w (K.Ret (fun _ : Nat × Nat => True) (fun q => .func (.func 76) #[] #[.pointer (some ⟨q.2, 0, none⟩), .pointer (some ⟨q.1, 0, none⟩)]) (fun q => [K.blk q.2 3 [.int .i64 i], K.blk q.1 78 [.slice A r.length c]]) w) := by
  refine K.enter (args := [.slice A r.length c, .int .i64 i]) Tryz.func37 rfl (n := 4) rfl ?_
  simp only [List.replicate, List.cons_append, List.nil_append]
  refine sr ?_
  refine K.seq_new (K.box) rfl ?_
  intro b2
  refine zN ?_
  refine K.seq_new (K.box) rfl ?_
  intro b3
  refine zN ?_
  refine qa ?_
  refine sn ?_
  refine sr ?_
  refine K.seq_pure (K.mkFunc) rfl ?_
  refine zN ?_
  refine qa ?_
  refine sn ?_
  refine K.ret ?_
  refine K.end_ret (fun w _ => K.res_tmp rfl w) ?_
  exact K.rets_v (b2, b3) trivial rfl rfl (List.Sublist.refl _)

set_option maxRecDepth 100000 in
set_option maxHeartbeats 1000000 in
theorem c84 {r : List RvT} {A : Option Addr} {c : Nat} {b i : Nat} {p : Addr} (g : Good r) (hi : i < r.length) :
    R.IterX Tryz.prog 76 [] [.pointer (some ⟨b, 0, none⟩), .pointer (some p)] b (fun f w => w.heap[b]? = some (.cells #[.int .i64 (i : Int)] 3 (0, 0)) ∧ R.Own1 (R.orb f b) w p [.slice A r.length c] ∧ R.OwnR (R.orb f b) w A 4 eR r) (fun s : Int × Int => [Value.int .i64 s.1, Value.int .i64 s.2]) (belS r i) := by
  intro lr B0 J Jx f w hB hbl hJa hJxa hJb hJxb hf hnf hR hJ0 hpre
  obtain ⟨hbx, h2, hO⟩ := hpre
  refine R.enter (args := [.func (.yield lr) #[] #[], .pointer (some ⟨b, 0, none⟩), .pointer (some p)]) Tryz.func76 rfl (m := 22) rfl ?_
  simp only [List.replicate, List.cons_append, List.nil_append]
  refine R.seq ?_
  refine R.region_lit rfl ?_
  refine qa ?_
  refine K.seq_nil ?_
  refine R.out ?_
  refine R.norm_then ?_
  refine R.block ?_
  refine R.loopN [4] [5, 6, 7, 8, 9, 10, 11, 12, 13, 14, 15, 16, 17, 18, 19, 20, 21, 22, 23, 24] (fun m vi W => ∃ (k : Nat) (f1 : Nat → Prop), vi = [.int .i64 (DM r i - DM r (stps r k i))] ∧ m = dep r i + 1 - k ∧ k ≤ dep r i + 1 ∧ J k f1 W ∧ (∀ i, f1 i → i < W.heap.size) ∧ ¬ f1 b ∧ W.heap[b]? = some (.cells #[.int .i64 (curS r i k)] 3 (0, 0)) ∧ R.Own1 (R.orb f1 b) W p [.slice A r.length c] ∧ R.OwnR (R.orb f1 b) W A 4 eR r) (dep r i + 1) ?_ ?_
  · intro w1 hw1
    exact ⟨0, f, by simp only [List.map, K.nth, stps]; rw [Int.sub_self], rfl, by omega, hJa.below hJ0 hf hB hw1.1, fun i hi => Nat.lt_of_lt_of_le (hf i hi) hw1.1.size, hnf, (hw1.1.block b (K.lt_of_some hbx)).trans hbx, h2.keep (R.Keep.below hw1.1), hO.keep (R.Keep.below hw1.1)⟩
  intro m vi vr W hJ
  obtain ⟨k, f1, rfl, rfl, hkd1, hJ1, hfb, hnb, hbx, h2, hO⟩ := hJ
  have h1 := R.heap_ptr hbx
  try dsimp only [setd, setn, ev, nth, over, cl, eI, eP, eT, eR, setM, setF, List.map, List.append, List.drop, List.take]
  refine R.seq ?_
  refine R.seq ?_
  refine R.lregion ?_
  refine R.lseq_sil (K.load1 one_3 rfl (h1.any)) rfl rfl ?_
  refine zN ?_
  refine R.lseq_pure (K.neq rfl rfl) rfl rfl ?_
  refine zn ?_
  refine R.lseq_pure (K.move) rfl rfl ?_
  refine zn ?_
  refine R.lsplit 7 rfl (fun hg7 => ?_) (fun hg7 => ?_)
  · try replace hg7 := of_decide_eq_true hg7
    obtain ⟨hkd, hcu⟩ := cur_yes g hi hg7
    refine R.lseq_pure (K.move) rfl rfl ?_
    refine zn ?_
    refine R.lseq_sil (K.load1 one_3 rfl (h1.any)) rfl rfl ?_
    refine zN ?_
    rw [hcu]
    refine zN ?_
    refine R.lseq_pure (K.move) rfl rfl ?_
    refine zn ?_
    refine R.lseq_yield2 rfl rfl rfl (fun w1 hw1 => R.yield_steps hR (bel_at hkd) (hJa.below hJ1 hfb (hJb _ _ _ hJ1) hw1.1)) ?_
    intro w1 hw1 bb w2 hst
    refine zN ?_
    refine R.lseq_pure (K.pick_t rfl) rfl rfl ?_
    refine zn ?_
    refine R.lseq_nil ?_
    refine R.norm_then ?_
    refine R.cond rfl (fun ht12 => ?_) (fun ht12 => ?_)
    · try replace ht12 := of_decide_eq_true ht12
      have hbt : bb = true := by simpa using ht12
      subst hbt
      rcases hst with ⟨_, f2, hJ2, hk2, _, hf2⟩ | ⟨h, _⟩
      case inr => cases h
      have ek := ((R.Keep.below (f := f1) hw1.1).trans hk2)
      have hB2 := hJb _ _ _ hJ2
      have hbx2 : w2.heap[b]? = some (.cells #[.int .i64 (curS r i k)] 3 (0, 0)) := (ek b (K.lt_of_some hbx) hnb).2.trans hbx
      have h2 := h2.keep (R.Keep.orbs ek)
      have hO := hO.keep (R.Keep.orbs ek)
      have hP := hO.rd
      have h1 := R.heap_ptr hbx2
      rw [hcu] at h1
      have hnx := cur_next g hi hkd
      have hdr := drop_next (k := k) g hi
      have hls := stps_lt g hi k
      have hpk := g.p _ hls
      have hdl := DM_le g hi
      have hdk := DM_le g hls
      refine R.skip ?_
      refine R.norm_then ?_
      refine R.seq ?_
      refine R.block ?_
      refine R.region_lit rfl ?_
      refine qm ?_
      refine K.seq_sil (K.load1 one_78 rfl (h2.ptr.any)) rfl ?_
      refine zN ?_
      refine K.seq_sil (K.load1 one_3 rfl (h1.any)) rfl ?_
      refine zN ?_
      refine K.seq_ix (M := []) (stps r k i) hP.sl sl_78 rfl rfl (by omega) (by omega) rfl ?_
      intro p21 hp21
      refine zN ?_
      refine qp (K.fieldAddr fo_34_2 rfl) ?_
      refine K.seq_sil (K.load1 one_3 rfl ((K.PtrL.fld hp21 (k := 2)).any)) rfl ?_
      refine zN ?_
      refine K.seq_pure (K.add_i64 rfl rfl (by omega)) rfl ?_
      refine zN ?_
      rw [hdr]
      refine zN ?_
      refine qa ?_
      refine K.seq_nil ?_
      refine R.out ?_
      refine R.norm_block ?_
      refine R.norm_then ?_
      refine R.region_lit rfl ?_
      refine K.seq_sil (K.load1 one_78 rfl (h2.ptr.any)) rfl ?_
      refine zN ?_
      refine K.seq_sil (K.load1 one_3 rfl (h1.any)) rfl ?_
      refine zN ?_
      refine K.seq_ix (M := []) (stps r k i) hP.sl sl_78 rfl rfl (by omega) (by omega) rfl ?_
      intro p15 hp15
      refine zN ?_
      refine qp (K.fieldAddr fo_34_1 rfl) ?_
      refine K.seq_sil (K.load1 one_3 rfl ((K.PtrL.fld hp15 (k := 1)).any)) rfl ?_
      refine zN ?_
      refine R.seq_old (cs := [.int .i64 (curS r i k)]) sz_3 rfl rfl (Nat.le_refl 1) rfl rfl rfl (fun w hw => (hw.1.block b (K.lt_of_some hbx2)).trans hbx2) (fun w5 w6 hw5 hb6 hne hbe => ?_)
      refine zN ?_
      refine K.seq_nil ?_
      refine R.out ?_
      refine R.roundN (dep r i + 1 - (k + 1)) [.int .i64 (DM r i - DM r (stps r (k + 1) i))] (fun w4 hw4 => ?_) (by omega) (by kernel_rfl)
      have ek2 := (((R.Keep.below (f := R.orb f2 b) hw5.1).trans (R.Keep.off hne)).trans (R.Keep.below hw4.1))
      have hn2 : ¬ f2 b := (ek b (K.lt_of_some hbx) hnb).1
      have hsz6 : w5.heap.size ≤ w6.heap.size := (hbe 0).size
      have hJ4 : J (k + 1) f2 w4 := hJa _ _ w2 w4 hJ2 ((R.BelowX.of (hw5.1.mono hB2)).trans ((hbe B0).trans (R.BelowX.of (hw4.1.mono (Nat.le_trans hB2 (Nat.le_trans hw5.1.size hsz6)))))) (fun j hj => by
        have hj2 := hf2 j hj
        rw [hw4.1.block j (Nat.lt_of_lt_of_le hj2 (Nat.le_trans hw5.1.size hsz6)), hne j (fun e => hn2 (e ▸ hj)), hw5.1.block j hj2])
      refine ⟨k + 1, f2, rfl, rfl, by omega, hJ4, fun j hj => Nat.lt_of_lt_of_le (hf2 j hj) (Nat.le_trans hw5.1.size (Nat.le_trans hsz6 hw4.1.size)), hn2, ?_, h2.keep ek2, hO.keep ek2⟩
      rw [hw4.1.block b (K.lt_of_some hb6), hnx]
      exact hb6
    try replace ht12 := of_decide_eq_false ht12
    refine R.exit ?_
    refine R.exit_then ?_
    refine R.exit_then ?_
    refine R.exit_here ?_
    refine R.end_normal (fun w _ => K.res_none rfl w) ?_
    intro w3 hw3
    refine ⟨⟨_, rfl⟩, .inr ?_⟩
    have hbf : bb = false := by simpa using ht12
    subst hbf
    rcases hst with ⟨h, _⟩ | ⟨_, k2, f2, hk2, hJ2, hkp, _, hf2⟩
    · cases h
    exact ⟨k2, f2, hk2, hJxa.below hJ2 hf2 (hJxb _ _ _ hJ2) hw3.1⟩
  try replace hg7 := of_decide_eq_false hg7
  refine R.lseq_skip ?_ ?_
  · rfl
  refine zN ?_
  refine R.lseq_skip ?_ ?_
  · rfl
  refine zN ?_
  refine R.lseq_skip ?_ ?_
  · rfl
  refine zN ?_
  refine R.lseq_skip ?_ ?_
  · rfl
  refine zN ?_
  refine R.lseq_pure (K.pick_f rfl) rfl rfl ?_
  refine zn ?_
  refine R.lseq_nil ?_
  refine R.norm_then ?_
  refine R.cond_false rfl ?_
  refine R.exit ?_
  refine R.exit_then ?_
  refine R.exit_then ?_
  refine R.exit_here ?_
  refine R.end_normal (fun w _ => K.res_none rfl w) ?_
  intro w3 hw3
  refine ⟨⟨_, rfl⟩, .inl ⟨f1, ?_⟩⟩
  have hcn : curS r i k = -1 := Decidable.not_not.1 hg7
  have e0 : k = dep r i + 1 := by have := cur_no hcn; omega
  rw [bel_len, ← e0]
  exact hJa.below hJ1 hfb (hJb _ _ _ hJ1) hw3.1

end Go.Proofs.YtekkpcpbnonkaaaGreatDoor.Rv
end
