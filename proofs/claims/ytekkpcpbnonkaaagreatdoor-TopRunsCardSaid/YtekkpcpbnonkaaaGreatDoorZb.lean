/-
  Lemmas and walks of functions, joined and with only what the claim needs.
  Conditions stand in each theorem.
-/
import Derived.Test.YtekkpcpbnonkaaaGreatDoorProg
import Derived.Test.YtekkpcpbnonkaaaGreatDoorRows
import Derived.Below
import Derived.Laws.AppendOwn
import Derived.Laws.Rows
import Derived.Laws.Slices
import Derived.Tactics
import Derived.OrdersHeld
import Derived.KernelRfl
import Derived.WalkKit
import Derived.Deep.AppendLies
import Derived.IntWalk
import Derived.Scope
import Derived.WalkSpells
import Derived.DeepKeys
import Derived.Deep.Upon
import Derived.Laws.Small
import Derived.RangeFuncLeaves
import Derived.RangeFuncSeq
import Derived.OrdersIn
import Derived.Sort.LoopGhostIn
import Derived.TacticsIn
import Derived.RangeFuncOwn
import Derived.WideKeyMaps
import Derived.DeepKeys4
import Derived.Carry
import Derived.Laws.CopyRow
import Derived.Laws.Strings
import Derived.WalkArith
import Derived.Laws.Closers25b
import Derived.ProofKit
import Derived.OpenShut
import Derived.LaidMore
import Derived.Lay
import Derived.Stop.Joined
import Derived.ChangeOld
import Derived.SizedLaws
import Derived.Deep.Slices
import Derived.Deep.Fields
import Derived.ChangeSame
import Derived.Lib.SmallJoins
import Derived.Laws.MakeOwn
import Derived.Shelf.Sort.Plain
import Derived.Sort.OwnSortedInts
import Derived.SevenTiedAt
import Derived.Test.YtekkpcpbnonkaaaGreatDoorZa
section
set_option linter.unusedSimpArgs false
set_option linter.unusedVariables false
namespace Go.Proofs.YtekkpcpbnonkaaaGreatDoor.Rv
open Go
def outB (lo hi : Int) (xs : List Int) : Bool := xs.any fun n => decide (n < lo) || decide (n > hi)
structure RvT where
  nm : ByteArray
  dn : Int
  ls : Int
  ht : Int
instance : Inhabited RvT := ⟨⟨ByteArray.empty, 0, 0, 0⟩⟩
def eR (p : RvT) : List Value := [.string p.nm, .int .i64 p.dn, .int .i64 p.ls, .int .i64 p.ht]
theorem zN {A B : Prop} (k : A) (e : B = A := by first | (dsimp only [K.setd, K.setn, K.ev, K.nth, K.over, K.cl, K.eI, K.eP, K.eT, eR, List.map, List.append, List.drop, List.take] <;> rfl) | rfl) : B := e ▸ k
theorem zn {A B : Prop} (k : A) (e : B = A := by dsimp only [K.setd, K.setn, K.ev, K.nth] <;> rfl) : B := e ▸ k
section
open Go.RowKit
variable {P : Program} {w0 : World} {L : List K.Chunk} {Q : Exit → Act → World → Prop} {l : List Value} {ops : Array Oper} {rest : List Oper} {o : Oper} {v : Value} {d : Option Tmp} {ty : TypeId} {ps : String} {af : Array Edge} {g : Option (Nat × Bool)} {A : Prop} {x : Operand} {id i : Nat}
theorem qp (h : K.Pure P o l v) (k : A) (hg : K.wantL ops.toList l o.guard = true := by exact rfl) (e : K.Hold w0 L (wpList P ops Q rest (K.fr (K.setd l o.dst v))) = A := by dsimp only [K.setd, K.setn, K.ev, K.nth] <;> rfl) : K.Hold w0 L (wpList P ops Q (o :: rest) (K.fr l)) := K.seq_pure h hg (e ▸ k)
theorem qm (k : A) (hg : K.wantL ops.toList l g = true := by exact rfl) (e : K.Hold w0 L (wpList P ops Q rest (K.fr (K.setd l d (K.ev l x)))) = A := by dsimp only [K.setd, K.setn, K.ev, K.nth] <;> rfl) : K.Hold w0 L (wpList P ops Q (⟨d, .move x, ty, ps, af, g⟩ :: rest) (K.fr l)) := K.seq_pure K.move hg (e ▸ k)
theorem qa (k : A) (hg : K.wantL ops.toList l g = true := by exact rfl) (e : K.Hold w0 L (wpList P ops Q rest (K.fr (K.setd l d (K.ev l x)))) = A := by dsimp only [K.setd, K.setn, K.ev, K.nth] <;> rfl) : K.Hold w0 L (wpList P ops Q (⟨d, .assign x, ty, ps, af, g⟩ :: rest) (K.fr l)) := K.seq_pure K.assign hg (e ▸ k)
theorem qx {vs : List Value} (k : A) (hx : K.ev l x = .tuple vs.toArray := by exact rfl) (hi : Nat.blt i vs.length = true := by exact rfl) (hg : K.wantL ops.toList l g = true := by exact rfl) (e : K.Hold w0 L (wpList P ops Q rest (K.fr (K.setd l d (K.nth vs i)))) = A := by dsimp only [K.setd, K.setn, K.ev, K.nth] <;> rfl) : K.Hold w0 L (wpList P ops Q (⟨d, .extract x i, ty, ps, af, g⟩ :: rest) (K.fr l)) := K.seq_pure (K.extract hx hi) hg (e ▸ k)
theorem qs (k : A) (hg : K.wantL ops.toList l o.guard = false := by exact rfl) (e : K.Hold w0 L (wpList P ops Q rest (K.fr (K.setd l o.dst undef))) = A := by dsimp only [K.setd, K.setn, K.ev, K.nth] <;> rfl) : K.Hold w0 L (wpList P ops Q (o :: rest) (K.fr l)) := K.seq_skip hg (e ▸ k)
theorem sn {J : Act → World → Prop} (k : K.Hold w0 L (J (K.fr l))) : K.Hold w0 L (wpList P ops (Exit.then J Q) [] (K.fr l)) := K.seq_nil (K.norm_then k)
theorem sr {lo : List Oper} {y : Code} (k : K.Hold w0 L (wpList P lo.toArray (Exit.then (y.wp P Q) Q) lo (K.fr l))) : K.Hold w0 L ((Code.seq (Code.region id lo.toArray false) y).wp P Q (K.fr l)) := K.seq (K.region_lit k)
end
def okC (i : Nat) (b : Int) : Bool := decide ((97 ≤ b ∧ b ≤ 122) ∨ (0 < i ∧ ((48 ≤ b ∧ b ≤ 57) ∨ b = 45)))
def nameB (s : ByteArray) : Bool := decide (1 ≤ s.size ∧ s.size ≤ 16) && (List.range s.size).all fun i => okC i (K.bt s i)
def nmEq (a b : ByteArray) : Bool := a.toList == b.toList
def freshE (s : ByteArray) (l : List ByteArray) : Int := if nameB s = false then 6 else if (l.any fun q => nmEq q s) = true then 5 else 0
theorem name_f1 {s : ByteArray} (h : ¬ (1 ≤ (s.size : Int) ∧ (s.size : Int) ≤ 16)) : nameB s = false := by
  unfold nameB; rw [decide_eq_false (by omega)]; rfl
theorem name_f2 {s : ByteArray} {i : Nat} (hi : i < s.size) (h : okC i (K.bt s i) = false) : nameB s = false := by
  unfold nameB; rw [Bool.and_eq_false_iff]; right
  exact List.all_eq_false.2 ⟨i, List.mem_range.2 hi, by simp [h]⟩
theorem name_t {s : ByteArray} (h1 : 1 ≤ s.size ∧ s.size ≤ 16) (h : ∀ i, i < s.size → okC i (K.bt s i) = true) : nameB s = true := by
  unfold nameB; rw [decide_eq_true h1, Bool.true_and]
  exact List.all_eq_true.2 (fun i hi => h i (List.mem_range.1 hi))
end Go.Proofs.YtekkpcpbnonkaaaGreatDoor.Rv

namespace Go.Proofs.YtekkpcpbnonkaaaGreatDoor.Rv
open Go
def stp (r : List RvT) (i : Nat) : Nat := if (r.getD i default).dn = -1 then i else (r.getD i default).dn.toNat
def stps (r : List RvT) : Nat → Nat → Nat
  | 0, i => i
  | k + 1, i => stp r (stps r k i)
structure Good (r : List RvT) : Prop where
  n : 1 ≤ r.length ∧ r.length ≤ 9
  p : ∀ i, i < r.length → ((0 ≤ (r.getD i default).ls ∧ (r.getD i default).ls ≤ 500) ∧ (0 ≤ (r.getD i default).ht ∧ (r.getD i default).ht ≤ 9000)) ∧ (-1 ≤ (r.getD i default).dn ∧ (r.getD i default).dn ≤ (r.length : Int) - 1) ∧ ((r.getD i default).dn = -1 → (r.getD i default).ls = 0)
  m : ∃ k, k < r.length ∧ (r.getD k default).dn = -1 ∧ ∀ i, i < r.length → (r.getD i default).dn = -1 → i = k
  r : ∀ i, i < r.length → (r.getD (stps r r.length i) default).dn = -1
def dep (r : List RvT) (i : Nat) : Nat := ((List.range (r.length + 1)).find? fun k => decide ((r.getD (stps r k i) default).dn = -1)).getD 0
def DF (r : List RvT) : Nat → Nat → Int
  | 0, _ => 0
  | f + 1, i => if (r.getD i default).dn = -1 then 0 else (r.getD i default).ls + DF r f (r.getD i default).dn.toNat
def DM (r : List RvT) (i : Nat) : Int := DF r r.length i
def bl (r : List RvT) (i k : Nat) : Prop := ∃ j, stps r j i = k
section
variable {r : List RvT} {i k j : Nat}
theorem stps_comm : ∀ k, stps r k (stp r i) = stps r (k + 1) i
  | 0 => rfl
  | k + 1 => by rw [stps, stps_comm k]; rfl
theorem stps_add : ∀ k j, stps r k (stps r j i) = stps r (k + j) i
  | 0, j => by rw [Nat.zero_add]; rfl
  | k + 1, j => by rw [stps, stps_add k j, Nat.succ_add]; rfl
theorem stp_m (h : (r.getD i default).dn = -1) : stp r i = i := by unfold stp; rw [if_pos h]
theorem stp_d (h : (r.getD i default).dn ≠ -1) : stp r i = (r.getD i default).dn.toNat := by unfold stp; rw [if_neg h]
theorem stps_m (h : (r.getD i default).dn = -1) : ∀ k, stps r k i = i
  | 0 => rfl
  | k + 1 => by rw [stps, stps_m h k, stp_m h]
theorem stp_lt (g : Good r) (hi : i < r.length) : stp r i < r.length := by
  have := (g.p i hi).2.1
  unfold stp
  split
  · exact hi
  · omega
theorem stps_lt (g : Good r) (hi : i < r.length) : ∀ k, stps r k i < r.length
  | 0 => hi
  | k + 1 => stp_lt g (stps_lt g hi k)
theorem dep_of {d : Nat} (hd : d ≤ r.length) (h1 : (r.getD (stps r d i) default).dn = -1) (h2 : ∀ j, j < d → (r.getD (stps r j i) default).dn ≠ -1) : dep r i = d := by
  unfold dep
  have : (List.range (r.length + 1)).find? (fun k => decide ((r.getD (stps r k i) default).dn = -1)) = some d := by
    rw [List.find?_range_eq_some]
    refine ⟨decide_eq_true h1, List.mem_range.2 (by omega), fun j hj => ?_⟩
    simpa using h2 j hj
  rw [this]; rfl
theorem dep_is (g : Good r) (hi : i < r.length) : dep r i ≤ r.length ∧ (r.getD (stps r (dep r i) i) default).dn = -1 ∧ ∀ j, j < dep r i → (r.getD (stps r j i) default).dn ≠ -1 := by
  cases e : (List.range (r.length + 1)).find? (fun k => decide ((r.getD (stps r k i) default).dn = -1)) with
  | none =>
    have := List.find?_eq_none.1 e r.length (List.mem_range.2 (by omega))
    exact absurd (decide_eq_true (g.r i hi)) this
  | some d =>
    have e2 : dep r i = d := by unfold dep; rw [e]; rfl
    rw [List.find?_range_eq_some] at e
    obtain ⟨h1, h2, h3⟩ := e
    rw [e2]
    refine ⟨by have := List.mem_range.1 h2; omega, of_decide_eq_true h1, fun j hj => ?_⟩
    simpa using h3 j hj
theorem dep_m (g : Good r) (hi : i < r.length) : dep r i = 0 ↔ (r.getD i default).dn = -1 := by
  have h := dep_is g hi
  constructor
  · intro e; rw [e] at h; exact h.2.1
  · intro e
    rcases Nat.eq_zero_or_pos (dep r i) with h0 | h0
    · exact h0
    · exact absurd e (h.2.2 0 h0)
theorem dep_d (g : Good r) (hi : i < r.length) (h : (r.getD i default).dn ≠ -1) : dep r i = dep r (r.getD i default).dn.toNat + 1 := by
  have hd := dep_is g hi
  have h0 : dep r i ≠ 0 := fun e => h ((dep_m g hi).1 e)
  have : dep r (stp r i) = dep r i - 1 := by
    refine dep_of (by omega) ?_ (fun j hj => ?_)
    · rw [stps_comm, show dep r i - 1 + 1 = dep r i by omega]; exact hd.2.1
    · rw [stps_comm]; exact hd.2.2 (j + 1) (by omega)
  rw [← stp_d h]; omega
theorem down_ind (g : Good r) {P : Nat → Prop} (h0 : ∀ i, i < r.length → (r.getD i default).dn = -1 → P i) (h1 : ∀ i, i < r.length → (r.getD i default).dn ≠ -1 → (r.getD i default).dn.toNat < r.length → P (r.getD i default).dn.toNat → P i) : ∀ i, i < r.length → P i := by
  have : ∀ d i, i < r.length → dep r i = d → P i := by
    intro d
    induction d with
    | zero => intro i hi e; exact h0 i hi ((dep_m g hi).1 e)
    | succ d ih =>
      intro i hi e
      have hm : (r.getD i default).dn ≠ -1 := fun e2 => by have := (dep_m g hi).2 e2; omega
      have hlt := stp_lt g hi
      rw [stp_d hm] at hlt
      exact h1 i hi hm hlt (ih _ hlt (by have := dep_d g hi hm; omega))
  exact fun i hi => this _ i hi rfl
theorem DF_eq (g : Good r) : ∀ f f' i, i < r.length → dep r i ≤ f → dep r i ≤ f' → DF r f i = DF r f' i
  | 0, 0, _, _, _, _ => rfl
  | 0, f' + 1, i, hi, h, _ => by rw [DF, DF, if_pos ((dep_m g hi).1 (by omega))]
  | f + 1, 0, i, hi, _, h => by rw [DF, DF, if_pos ((dep_m g hi).1 (by omega))]
  | f + 1, f' + 1, i, hi, h, h' => by
    rw [DF, DF]
    split
    · rfl
    · rename_i hm
      have hlt := stp_lt g hi
      rw [stp_d hm] at hlt
      have := dep_d g hi hm
      rw [DF_eq g f f' _ hlt (by omega) (by omega)]
theorem DM_m (h : (r.getD i default).dn = -1) : DM r i = 0 := by
  unfold DM
  cases r.length with
  | zero => rfl
  | succ n => rw [DF, if_pos h]
theorem DM_d (g : Good r) (hi : i < r.length) (h : (r.getD i default).dn ≠ -1) : DM r i = (r.getD i default).ls + DM r (r.getD i default).dn.toNat := by
  have hlt := stp_lt g hi
  rw [stp_d h] at hlt
  have hd := dep_d g hi h
  have hd2 := (dep_is g hi).1
  have e : DM r i = DF r (r.length + 1) i := DF_eq g _ _ _ hi (by omega) (by omega)
  rw [e, DF, if_neg h]; rfl
theorem DM_bd (g : Good r) : ∀ i, i < r.length → 0 ≤ DM r i ∧ DM r i ≤ 500 * (dep r i : Int) := by
  refine down_ind g (fun i hi hm => ?_) (fun i hi hm hlt ih => ?_)
  · rw [DM_m hm]; omega
  · have := g.p i hi
    rw [DM_d g hi hm, dep_d g hi hm]; omega
theorem DM_le (g : Good r) (hi : i < r.length) : 0 ≤ DM r i ∧ DM r i ≤ 4500 := by
  have h1 := DM_bd g i hi
  have h2 := (dep_is g hi).1
  have h3 := g.n
  omega
theorem DM_step (g : Good r) (hi : i < r.length) : DM r (stp r i) ≤ DM r i := by
  by_cases h : (r.getD i default).dn = -1
  · rw [stp_m h]; omega
  · rw [stp_d h]; have := DM_d g hi h; have := g.p i hi; omega
theorem DM_stps (g : Good r) (hi : i < r.length) : ∀ k, DM r (stps r k i) ≤ DM r i
  | 0 => by show DM r i ≤ _; omega
  | k + 1 => by
    have := DM_step g (stps_lt g hi k)
    have := DM_stps g hi k
    show DM r (stp r (stps r k i)) ≤ _; omega
theorem bl_refl : bl r i i := ⟨0, rfl⟩
theorem bl_tr (h1 : bl r i j) (h2 : bl r j k) : bl r i k := by
  obtain ⟨a, rfl⟩ := h1
  obtain ⟨b, rfl⟩ := h2
  exact ⟨b + a, (stps_add b a).symm⟩
theorem bl_lt (g : Good r) (hi : i < r.length) (h : bl r i k) : k < r.length := by
  obtain ⟨a, rfl⟩ := h; exact stps_lt g hi a
theorem bl_down (h : (r.getD i default).dn ≠ -1) : bl r i (r.getD i default).dn.toNat := ⟨1, stp_d h⟩
theorem bl_DM (g : Good r) (hi : i < r.length) (h : bl r i k) : DM r k ≤ DM r i := by
  obtain ⟨a, rfl⟩ := h; exact DM_stps g hi a
theorem dep_stp (g : Good r) (hi : i < r.length) : dep r (stp r i) = dep r i - 1 := by
  by_cases h : (r.getD i default).dn = -1
  · rw [stp_m h, (dep_m g hi).2 h]
  · rw [stp_d h]; have := dep_d g hi h; omega
theorem dep_stps (g : Good r) (hi : i < r.length) : ∀ k, dep r (stps r k i) = dep r i - k
  | 0 => rfl
  | k + 1 => by rw [stps, dep_stp g (stps_lt g hi k), dep_stps g hi k]; omega
theorem stps_past (g : Good r) (hi : i < r.length) (h : dep r i ≤ k) : stps r k i = stps r (dep r i) i := by
  have hm := (dep_is g hi).2.1
  have := stps_m hm (k - dep r i)
  rw [stps_add] at this
  rw [← this]; congr 1; omega
theorem bl_fin (g : Good r) (hi : i < r.length) : bl r i k ↔ ∃ j, j ≤ dep r i ∧ stps r j i = k := by
  constructor
  · rintro ⟨j, h⟩
    by_cases hj : j ≤ dep r i
    · exact ⟨j, hj, h⟩
    · exact ⟨dep r i, Nat.le_refl _, by rw [← stps_past g hi (by omega : dep r i ≤ j)]; exact h⟩
  · rintro ⟨j, _, h⟩; exact ⟨j, h⟩
theorem bl_anti (g : Good r) (hi : i < r.length) (h : bl r i k) (hne : i ≠ k) : dep r k < dep r i := by
  obtain ⟨j, hj, rfl⟩ := (bl_fin g hi).1 h
  rw [dep_stps g hi]
  rcases Nat.eq_zero_or_pos j with h0 | h0
  · subst h0; exact absurd rfl hne
  · omega
theorem bl_cmp (h1 : bl r i j) (h2 : bl r i k) : bl r j k ∨ bl r k j := by
  obtain ⟨a, rfl⟩ := h1
  obtain ⟨b, rfl⟩ := h2
  rcases Nat.le_total a b with h | h
  · exact .inl ⟨b - a, by rw [stps_add]; congr 1; omega⟩
  · exact .inr ⟨a - b, by rw [stps_add]; congr 1; omega⟩
theorem bl_two (g : Good r) (hi : i < r.length) (hk : k < r.length) (h1 : bl r i k) (h2 : bl r k i) : i = k := by
  by_cases h : i = k
  · exact h
  · have := bl_anti g hi h1 h; have := bl_anti g hk h2 (Ne.symm h); omega
end
def blB (r : List RvT) (i k : Nat) : Bool := (List.range (r.length + 1)).any fun j => stps r j i == k
def drp (r : List RvT) (i k : Nat) : Int := if blB r i k then DM r i - DM r k else -1
section
variable {r : List RvT} {i k j : Nat}
theorem blB_iff (g : Good r) (hi : i < r.length) : blB r i k = true ↔ bl r i k := by
  unfold blB
  rw [List.any_eq_true, bl_fin g hi]
  constructor
  · rintro ⟨j, _, h⟩
    have h := eq_of_beq h
    by_cases hj : j ≤ dep r i
    · exact ⟨j, hj, h⟩
    · exact ⟨dep r i, Nat.le_refl _, by rw [← stps_past g hi (by omega : dep r i ≤ j)]; exact h⟩
  · rintro ⟨j, hj, h⟩
    have := (dep_is g hi).1
    exact ⟨j, List.mem_range.2 (by omega), beq_iff_eq.2 h⟩
theorem drp_bl (g : Good r) (hi : i < r.length) (h : bl r i k) : drp r i k = DM r i - DM r k := by unfold drp; rw [if_pos ((blB_iff g hi).2 h)]
theorem drp_no (g : Good r) (hi : i < r.length) (h : ¬ bl r i k) : drp r i k = -1 := by unfold drp; rw [if_neg (fun h' => h ((blB_iff g hi).1 h'))]
theorem drp_ge (g : Good r) (hi : i < r.length) : 0 ≤ drp r i k ↔ bl r i k := by
  by_cases h : bl r i k
  · rw [drp_bl g hi h]; have := bl_DM g hi h; exact ⟨fun _ => h, fun _ => by omega⟩
  · rw [drp_no g hi h]; exact ⟨fun h' => by omega, fun h' => absurd h' h⟩
theorem drp_bd (g : Good r) (hi : i < r.length) : -1 ≤ drp r i k ∧ drp r i k ≤ 4500 := by
  by_cases h : bl r i k
  · rw [drp_bl g hi h]; have := bl_DM g hi h; have := DM_le g hi; have := DM_le g (bl_lt g hi h); omega
  · rw [drp_no g hi h]; omega
end
end Go.Proofs.YtekkpcpbnonkaaaGreatDoor.Rv
end
section
set_option linter.unusedSimpArgs false
set_option linter.unusedVariables false
namespace Go.K
open Go.RowKit
section
variable {P : Program} {w0 : World} {L L' : List Chunk} {l : List Value} {d : Option Tmp} {ty : TypeId} {ps : String} {af : Array Edge} {g : Option (Nat × Bool)}
def RetU {ρ : Type} (ok : ρ → Prop) (val : ρ → Value) (w0 : World) (L' : ρ → List Chunk) : Ending → World → Prop :=
  fun e w' => ∃ r, ok r ∧ e = .returned (val r) ∧ St w0 (L' r) w'
theorem enterU {P : Program} {f : FuncId} {fn : Func} {c : Code} {args : List Value} {n : Nat} {w0 w : World} {L : List Chunk} {R : Ending → World → Prop} (hf : P.funcs[f]? = some fn) (hb : fn.body = some c) (hn : fn.ntmps - args.length = n) (hw : St w0 L w)
    (k : Hold w0 L (c.wp P (bodyPost P fn R) (fr (args ++ List.replicate n undef)))) : Calls P f args.toArray w R := by
  refine calls_of_wp hf hb ?_
  have h1 := k w hw
  subst hn
  have e : args.toArray ++ Array.replicate (fn.ntmps - args.toArray.size) undef = (args ++ List.replicate (fn.ntmps - args.length) undef).toArray := by
    apply Array.toList_inj.1; simp
  rw [e]
  exact h1
theorem retsU {ρ : Type} {ok : ρ → Prop} {val : ρ → Value} {D : ρ → List Chunk} {v : Value} (r : ρ) (hok : ok r) (hv : v = val r) (hD : List.Sublist (D r) L) : Hold w0 L (RetU ok val w0 D (.returned v)) :=
  fun _ hw => ⟨r, hok, by rw [hv], hw.sub hD⟩
theorem callU {ρ : Type} {ok : ρ → Prop} {val : ρ → Value} {D : ρ → List Chunk} {x : Operand} {args : List Operand} {f : FuncId} {first cap : List Value} {ts : Array TypeId} (hx : ev l x = .func (.func f) first.toArray cap.toArray) (hf : callable P f = true)
    (hc : ∀ w, St w0 L w → Calls P f (first ++ args.map (ev l) ++ cap).toArray w (RetU ok val w0 D)) :
    Upd P w0 L ⟨d, .call { callee := .value x, args := args.toArray, argTypes := ts }, ty, ps, af, g⟩ l ok val D := fun w hw => by
  refine OpT.of_enter (w' := w) (f := f) (args := (first ++ args.map (ev l) ++ cap).toArray) ?_ ((hc w hw).mono ?_)
  · have e : first.toArray ++ args.toArray.map (ev l) ++ cap.toArray = (first ++ args.map (ev l) ++ cap).toArray := by
      apply Array.toList_inj.1; simp
    simp only [execOp, resolve, hx, Deferred.ofValue, Sem.run_bind, Sem.run_pure, Result.andThen_ok, invoke, e, run_call hf]
  · rintro e w' ⟨r, hr, rfl, hb⟩
    exact ⟨_, rfl, r, hr, rfl, hb⟩
theorem callU_f {ρ : Type} {ok : ρ → Prop} {val : ρ → Value} {D : ρ → List Chunk} {args : List Operand} {f : FuncId} {ts : Array TypeId} (hf : callable P f = true)
    (hc : ∀ w, St w0 L w → Calls P f (args.map (ev l)).toArray w (RetU ok val w0 D)) :
    Upd P w0 L ⟨d, .call { callee := .value (.func f), args := args.toArray, argTypes := ts }, ty, ps, af, g⟩ l ok val D :=
  callU (first := []) (cap := []) rfl hf (by simpa using hc)
variable {t kt b : Nat} {kvs : List (Value × Int)} {key : Value} {bo : Option (Nat × Nat)}
theorem lookupOk_mq {x y : Operand} (hM : MapT P t kt) (hx : ev l x = .map (some b)) (hy : ev l y = key) (hm : mq b bo kvs ∈ L) (hk : ∃ q, keyOf P kt key = some q) (hks : ∀ p ∈ kvs, ∃ q, keyOf P kt p.1 = some q) :
    Loud P w0 L ⟨d, .lookup t x y true, ty, ps, af, g⟩ l (fun r : Int × Bool => (r.2 = false ∧ r.1 = 0 ∧ ∀ p ∈ kvs, p.1 ≠ key) ∨ (r.2 = true ∧ (key, r.1) ∈ kvs)) (fun r => .tuple #[.int .i64 r.1, .bool r.2]) (fun _ => []) := fun F w hF hw => by
  obtain ⟨es, clock, h1, h2, h3, h4, h6⟩ := (hw.2.1 _ (hF _ hm)).1
  obtain ⟨e, hu, hz⟩ := hM.u
  obtain ⟨q, hq⟩ := hk
  have hall := mq_keys (P := P) (kt := kt) h2 hks
  have hc := hM.law.check w es.isEmpty hq
  rcases hM.law.find w hq es.toList hall with ⟨hf, hne⟩ | ⟨j, e0, hf, he, hkey⟩
  · refine OpT.of_run (v := .tuple #[.int .i64 0, .bool false]) (w' := w) ?_ ⟨(0, false), .inl ⟨rfl, rfl, mq_none h2 hne⟩, rfl, hw⟩
    simp [execOp, hx, hy, Instr.lookup, run_underlying hu, MapKept.run_getObj_map h1, hc, hf, hz, Result.andThen]
  · obtain ⟨n, hn0, hn⟩ := mq_at h2 he
    refine OpT.of_run (v := .tuple #[.int .i64 n, .bool true]) (w' := w) ?_ ⟨(n, true), .inr ⟨rfl, by rw [← hkey]; exact List.mem_of_getElem? hn0⟩, rfl, hw⟩
    simp [execOp, hx, hy, Instr.lookup, run_underlying hu, MapKept.run_getObj_map h1, hc, hf, hn, Result.andThen]
def PutQ (kvs : List (Value × Int)) (key : Value) (v : Int) (kvs' : List (Value × Int)) : Prop :=
  ((∀ p ∈ kvs, p.1 ≠ key) ∧ kvs' = kvs ++ [(key, v)]) ∨ ∃ j n, kvs[j]? = some (key, n) ∧ kvs' = kvs.set j (key, v)
theorem mapUpdate_mq {x y z : Operand} {v : Int} {M' : List (Value × Int) → List Chunk} (hM : MapT P t kt) (hx : ev l x = .map (some b)) (hy : ev l y = key) (hz : ev l z = .int .i64 v) (hk : ∃ q, keyOf P kt key = some q) (hks : ∀ p ∈ kvs, ∃ q, keyOf P kt p.1 = some q)
    (hr : ∀ kvs', Rep (mq b none kvs) (mq b none kvs') L (M' kvs')) :
    Upd P w0 L ⟨d, .mapUpdate t x y z, ty, ps, af, g⟩ l (fun kvs' => PutQ kvs key v kvs') (fun _ => undef) M' := fun w hw => by
  obtain ⟨es, clock, h1, h2, h3, h4, h6⟩ := (hw.2.1 _ (hr []).mem).1
  obtain ⟨e, hu, _⟩ := hM.u
  obtain ⟨q, hq⟩ := hk
  have hall := mq_keys (P := P) (kt := kt) h2 hks
  have hlen : es.toList.length = kvs.length := by simpa using congrArg List.length h2
  have hc := hM.law.check w false hq
  have hst := hM.law.stays w hq
  rcases hM.law.find w hq es.toList hall with ⟨hf, hne⟩ | ⟨j, e0, hf, he, hkey⟩
  · refine OpT.of_skip (w' := { w with heap := w.heap.setIfInBounds b (.map (es.push ⟨key, .int .i64 v, clock⟩) (clock + 1)) }) ?_ ⟨kvs ++ [(key, v)], .inl ⟨mq_none h2 hne, rfl⟩, rfl, ?_⟩
    · simp [execOp, hx, hy, hz, Instr.mapUpdate, run_underlying hu, MapKept.run_getObj_map h1, hc, hf, MapKept.run_setObj_map _ h1, Result.andThen]
    · refine hw.upd (hr _) (grownBy_setMap w b _) (fun k hk => by cases hk; rfl) ⟨_, _, map_set h1, ?_, ?_, ?_, by simp⟩ (fun k hk => .inl hk)
      · simp [h2]
      · simp only [Array.toList_push, List.map_append, List.map_cons, List.map_nil]
        refine List.nodup_append.2 ⟨h3, by simp, fun a ha c hc he => ?_⟩
        obtain ⟨e1, he1, rfl⟩ := List.mem_map.1 ha
        simp at hc
        have := h4 e1 he1
        omega
      · intro e1 he1
        simp only [Array.toList_push, List.mem_append, List.mem_singleton] at he1
        rcases he1 with he1 | rfl
        · have := h4 e1 he1; omega
        · simp
  · obtain ⟨n, hn0, hn⟩ := mq_at h2 he
    have he' : es[j]? = some e0 := by simpa using he
    have hm : ∀ k, ((es.modify j fun e => { e with key := key, val := .int .i64 v }).toList)[k]? = (es.toList[k]?).map fun e => if j = k then { e with key := key, val := .int .i64 v } else e := fun k => by
      simp only [Array.toList_modify, List.getElem?_modify]
      split <;> rename_i h <;> simp [h]
    have hborn : (es.modify j fun e => { e with key := key, val := .int .i64 v }).toList.map (·.born) = es.toList.map (·.born) := by
      apply List.ext_getElem?
      intro k
      rw [List.getElem?_map, hm, List.getElem?_map, Option.map_map]
      congr 1
      funext e
      simp only [Function.comp]
      split <;> rfl
    refine OpT.of_skip (w' := { w with heap := w.heap.setIfInBounds b (.map (es.modify j fun e => { e with key := key, val := .int .i64 v }) clock) }) ?_ ⟨kvs.set j (key, v), .inr ⟨j, n, by rw [hn0, hkey], rfl⟩, rfl, ?_⟩
    · simp [execOp, hx, hy, hz, Instr.mapUpdate, run_underlying hu, MapKept.run_getObj_map h1, hc, hf, he', hkey, hst, MapKept.run_setObj_map _ h1, Result.andThen]
    · refine hw.upd (hr _) (grownBy_setMap w b _) (fun k hk => by cases hk; rfl) ⟨_, _, map_set h1, ?_, by rw [hborn]; exact h3, ?_, by simp⟩ (fun k hk => .inl hk)
      · apply List.ext_getElem?
        intro k
        have h7 := congrArg (fun l => l[k]?) h2
        simp only [List.getElem?_map] at h7
        rw [List.getElem?_map, hm, List.getElem?_map, Option.map_map]
        by_cases hjk : j = k
        · subst hjk
          have hjl : j < kvs.length := (List.getElem?_eq_some_iff.1 hn0).1
          rw [he, List.getElem?_set_self hjl]; simp
        · rw [List.getElem?_set_ne hjk, ← h7]
          cases es.toList[k]? with
          | none => rfl
          | some e1 => simp [hjk]
      · intro e1 he1
        have h8 : e1.born ∈ es.toList.map (·.born) := by rw [← hborn]; exact List.mem_map_of_mem he1
        obtain ⟨e2, he2, hh⟩ := List.mem_map.1 h8
        have := h4 e2 he2
        omega
end
end Go.K
end
section
set_option linter.unusedSimpArgs false
set_option linter.unusedVariables false
namespace Go.Proofs.YtekkpcpbnonkaaaGreatDoor.Rv
open Go
theorem take_succ_map {E F : Type} [Inhabited E] (f : E → F) {xs : List E} {k : Nat} (h : k < xs.length) : (xs.take (k + 1)).map f = (xs.take k).map f ++ [f (xs.getD k default)] := by
  rw [List.take_add_one, List.getElem?_eq_getElem h, List.map_append]
  simp [List.getD_eq_getElem?_getD, h]
def selN (p : Nat → Bool) (n : Nat) : List Int := ((List.range n).filter p).map fun (i : Nat) => (i : Int)
theorem selN_succ {p : Nat → Bool} {n : Nat} : selN p (n + 1) = selN p n ++ (if p n then [(n : Int)] else []) := by
  unfold selN
  rw [List.range_succ, List.filter_append, List.map_append]
  split <;> simp_all
theorem selN_len {p : Nat → Bool} {n : Nat} : (selN p n).length ≤ n := by
  unfold selN; rw [List.length_map]
  exact Nat.le_trans (List.length_filter_le _ _) (by simp)
theorem mem_sel {p : Nat → Bool} {n : Nat} {x : Int} : x ∈ selN p n ↔ ∃ i : Nat, i < n ∧ p i = true ∧ x = (i : Int) := by
  unfold selN
  simp only [List.mem_map, List.mem_filter, List.mem_range]
  constructor
  · rintro ⟨i, ⟨h1, h2⟩, rfl⟩; exact ⟨i, h1, h2, rfl⟩
  · rintro ⟨i, h1, h2, rfl⟩; exact ⟨i, ⟨h1, h2⟩, rfl⟩
theorem selN_yes {p : Nat → Bool} {n : Nat} (h : p n = true) : selN p (n + 1) = selN p n ++ [(n : Int)] := by rw [selN_succ, if_pos h]
theorem selN_no {p : Nat → Bool} {n : Nat} (h : p n = false) : selN p (n + 1) = selN p n := by rw [selN_succ, if_neg (by simp [h]), List.append_nil]
theorem selN_congr {p q : Nat → Bool} {n : Nat} (h : ∀ i, i < n → p i = q i) : selN p n = selN q n := by
  unfold selN; rw [List.filter_congr (fun i hi => h i (List.mem_range.1 hi))]
theorem list_ext {a b : List Int} (hl : a.length = b.length) (h : ∀ j, j < a.length → a.getD j default = b.getD j default) : a = b := by
  apply List.ext_getElem hl
  intro i h1 h2
  have := h i h1
  rwa [List.getD_eq_getElem?_getD, List.getD_eq_getElem?_getD, List.getElem?_eq_getElem h1, List.getElem?_eq_getElem h2] at this
def tabZ : List Int := [0,1,56,2,57,49,28,3,61,58,42,50,38,29,17,4,62,47,59,36,45,43,51,22,53,39,33,30,24,18,12,5,63,55,48,27,60,41,37,16,46,35,44,21,52,32,23,11,54,26,40,15,34,20,31,10,25,14,19,9,13,8,7,6]
def tab64 : List Value := tabZ.map fun n => .int .u8 n
def low1 (x : Int) : Int := IntKind.u64.wrap (BitVec.ofInt IntKind.u64.bits x &&& BitVec.ofInt IntKind.u64.bits (IntKind.u64.wrap (0 - x))).toNat
def idxZ (x : Int) : Int := (IntKind.u64.wrap (low1 x * 285870213051353865)).fdiv (2 ^ min ((58 : Int)).toNat IntKind.u64.bits)
def tzS (x : Int) : Int := tabZ.getD (idxZ x).toNat 0
def andS (x : Int) : Int := IntKind.i64.wrap (BitVec.ofInt IntKind.i64.bits x &&& BitVec.ofInt IntKind.i64.bits (x - 1)).toNat
def bitsL (s : Int) : List Int := selN (fun i => s.toNat.testBit i) 9
def bitC (n : Nat) : Bool := n == 0 || (decide (0 ≤ idxZ (n : Int) ∧ idxZ (n : Int) < 64) && decide (0 ≤ tzS (n : Int) ∧ tzS (n : Int) ≤ 8) && decide (0 ≤ andS (n : Int) ∧ andS (n : Int) < (n : Int)) && decide (bitsL (n : Int) = tzS (n : Int) :: bitsL (andS (n : Int))))
theorem bit_0 : (List.range 32).all (fun n => bitC (n + 0)) = true := by decide +kernel
theorem bit_1 : (List.range 32).all (fun n => bitC (n + 32)) = true := by decide +kernel
theorem bit_2 : (List.range 32).all (fun n => bitC (n + 64)) = true := by decide +kernel
theorem bit_3 : (List.range 32).all (fun n => bitC (n + 96)) = true := by decide +kernel
theorem bit_4 : (List.range 32).all (fun n => bitC (n + 128)) = true := by decide +kernel
theorem bit_5 : (List.range 32).all (fun n => bitC (n + 160)) = true := by decide +kernel
theorem bit_6 : (List.range 32).all (fun n => bitC (n + 192)) = true := by decide +kernel
theorem bit_7 : (List.range 32).all (fun n => bitC (n + 224)) = true := by decide +kernel
theorem bit_8 : (List.range 32).all (fun n => bitC (n + 256)) = true := by decide +kernel
theorem bit_9 : (List.range 32).all (fun n => bitC (n + 288)) = true := by decide +kernel
theorem bit_10 : (List.range 32).all (fun n => bitC (n + 320)) = true := by decide +kernel
theorem bit_11 : (List.range 32).all (fun n => bitC (n + 352)) = true := by decide +kernel
theorem bit_12 : (List.range 32).all (fun n => bitC (n + 384)) = true := by decide +kernel
theorem bit_13 : (List.range 32).all (fun n => bitC (n + 416)) = true := by decide +kernel
theorem bit_14 : (List.range 32).all (fun n => bitC (n + 448)) = true := by decide +kernel
theorem bit_15 : (List.range 32).all (fun n => bitC (n + 480)) = true := by decide +kernel
theorem bit_all {n : Nat} (h : n < 512) : bitC n = true := by
  have key : ∀ k m, (List.range 32).all (fun n => bitC (n + m)) = true → m = 32 * k → n / 32 = k → bitC n = true := fun k m hk hm hn => by
    have := List.all_eq_true.1 hk (n % 32) (List.mem_range.2 (by omega))
    rwa [show n % 32 + m = n by omega] at this
  have hd : n / 32 < 16 := by omega
  generalize e : n / 32 = q at hd
  rcases (show q = 0 ∨ q = 1 ∨ q = 2 ∨ q = 3 ∨ q = 4 ∨ q = 5 ∨ q = 6 ∨ q = 7 ∨ q = 8 ∨ q = 9 ∨ q = 10 ∨ q = 11 ∨ q = 12 ∨ q = 13 ∨ q = 14 ∨ q = 15 by omega) with rfl | rfl | rfl | rfl | rfl | rfl | rfl | rfl | rfl | rfl | rfl | rfl | rfl | rfl | rfl | rfl
  · exact key 0 _ bit_0 rfl e
  · exact key 1 _ bit_1 rfl e
  · exact key 2 _ bit_2 rfl e
  · exact key 3 _ bit_3 rfl e
  · exact key 4 _ bit_4 rfl e
  · exact key 5 _ bit_5 rfl e
  · exact key 6 _ bit_6 rfl e
  · exact key 7 _ bit_7 rfl e
  · exact key 8 _ bit_8 rfl e
  · exact key 9 _ bit_9 rfl e
  · exact key 10 _ bit_10 rfl e
  · exact key 11 _ bit_11 rfl e
  · exact key 12 _ bit_12 rfl e
  · exact key 13 _ bit_13 rfl e
  · exact key 14 _ bit_14 rfl e
  · exact key 15 _ bit_15 rfl e
theorem bit_at {x : Int} (h : 1 ≤ x ∧ x ≤ 511) : (0 ≤ idxZ x ∧ idxZ x < 64) ∧ (0 ≤ tzS x ∧ tzS x ≤ 8) ∧ (0 ≤ andS x ∧ andS x < x) ∧ bitsL x = tzS x :: bitsL (andS x) := by
  obtain ⟨n, rfl⟩ := Int.eq_ofNat_of_zero_le (show 0 ≤ x by omega)
  have h1 := bit_all (n := n) (by omega)
  unfold bitC at h1
  rw [Bool.or_eq_true] at h1
  rcases h1 with h1 | h1
  · have := eq_of_beq h1; omega
  · simp only [Bool.and_eq_true, decide_eq_true_eq] at h1
    exact ⟨h1.1.1.1, h1.1.1.2, h1.1.2, h1.2⟩
theorem tab_at {k : Nat} (h : k < 64) : tab64[0 + k * 1]? = some (.int .u8 (tabZ.getD k 0)) := by
  have hl : tabZ.length = 64 := by decide
  obtain ⟨v, hv⟩ : ∃ v, tabZ[k]? = some v := ⟨_, List.getElem?_eq_getElem (by omega)⟩
  rw [show 0 + k * 1 = k by omega]
  unfold tab64
  rw [List.getElem?_map, List.getD_eq_getElem?_getD, hv]; rfl
theorem idx_at {x : Int} (h : 1 ≤ x ∧ x ≤ 511) : (0 ≤ idxZ x ∧ idxZ x < 64) ∧ tab64[0 + (idxZ x).toNat * 1]? = some (.int .u8 (tzS x)) ∧ (0 ≤ tzS x ∧ tzS x ≤ 8) := by
  obtain ⟨h1, h2, _⟩ := bit_at h
  have ht : tzS x = tabZ.getD (idxZ x).toNat 0 := rfl
  exact ⟨h1, ht ▸ tab_at (by omega), h2⟩
theorem bits_at {x : Int} (h : 1 ≤ x ∧ x ≤ 511) : (0 ≤ andS x ∧ andS x < x) ∧ bitsL x = tzS x :: bitsL (andS x) := (bit_at h).2.2
theorem bits_0 : bitsL 0 = [] := by decide
theorem bits_len {x : Int} : (bitsL x).length ≤ 9 := selN_len
end Go.Proofs.YtekkpcpbnonkaaaGreatDoor.Rv

namespace Go.Proofs.YtekkpcpbnonkaaaGreatDoor.Rv
open Go
def cmpL : List Int → List Int → Int
  | [], [] => 0
  | [], _ :: _ => -1
  | _ :: _, [] => 1
  | a :: x, b :: y => if a < b then -1 else if a > b then 1 else cmpL x y
def cmpS (a b : Int) : Int := if a < b then -1 else if a > b then 1 else 0
theorem cmp0 {a b : Int} (h : cmpS a b = 0) : a = b := by unfold cmpS at h; split at h <;> (try split at h) <;> omega
theorem cmpL_cons {a b : Int} {x y : List Int} : cmpL (a :: x) (b :: y) = if cmpS a b ≠ 0 then cmpS a b else cmpL x y := by
  unfold cmpS; rw [cmpL]
  split
  · simp
  · split <;> simp
theorem cmpL_drop : ∀ {k : Nat} {xs ys : List Int}, (∀ j, j < k → xs.getD j default = ys.getD j default) → k ≤ xs.length → k ≤ ys.length → cmpL xs ys = cmpL (xs.drop k) (ys.drop k)
  | 0, _, _, _, _, _ => rfl
  | k + 1, [], _, _, h, _ => by simp at h
  | k + 1, _ :: _, [], _, _, h => by simp at h
  | k + 1, x :: xs, y :: ys, hall, h1, h2 => by
    have h0 := hall 0 (by omega)
    simp at h0
    rw [cmpL_cons, if_neg (by subst h0; simp [cmpS]), List.drop_succ_cons, List.drop_succ_cons]
    exact cmpL_drop (fun j hj => by have := hall (j + 1) (by omega); simpa using this) (by simpa using h1) (by simpa using h2)
section
variable {k : Nat} {xs ys : List Int}
theorem cmpL_long (hall : ∀ j, j < k → xs.getD j default = ys.getD j default) (h1 : k < xs.length) (h2 : k = ys.length) : cmpL xs ys = 1 := by
  rw [cmpL_drop hall (by omega) (by omega), show ys.drop k = [] from List.drop_of_length_le (by omega), List.drop_eq_getElem_cons h1]; rfl
theorem cmpL_diff (hall : ∀ j, j < k → xs.getD j default = ys.getD j default) (h1 : k < xs.length) (h2 : k < ys.length) (hne : cmpS (xs.getD k default) (ys.getD k default) ≠ 0) : cmpL xs ys = cmpS (xs.getD k default) (ys.getD k default) := by
  rw [cmpL_drop hall (by omega) (by omega), List.drop_eq_getElem_cons h1, List.drop_eq_getElem_cons h2, cmpL_cons]
  simp only [List.getD_eq_getElem?_getD, List.getElem?_eq_getElem h1, List.getElem?_eq_getElem h2, Option.getD_some] at hne ⊢
  rw [if_pos hne]
theorem cmpL_short (hall : ∀ j, j < k → xs.getD j default = ys.getD j default) (h1 : k = xs.length) (h2 : k < ys.length) : cmpL xs ys = -1 := by
  rw [cmpL_drop hall (by omega) (by omega), show xs.drop k = [] from List.drop_of_length_le (by omega), List.drop_eq_getElem_cons h2]; rfl
theorem cmpL_same (hall : ∀ j, j < k → xs.getD j default = ys.getD j default) (h1 : k = xs.length) (h2 : k = ys.length) : cmpL xs ys = 0 := by
  rw [cmpL_drop hall (by omega) (by omega), show xs.drop k = [] from List.drop_of_length_le (by omega), show ys.drop k = [] from List.drop_of_length_le (by omega)]; rfl
end
section
variable {m k : Nat} {f n : Int} {z : List Int}
end
end Go.Proofs.YtekkpcpbnonkaaaGreatDoor.Rv

namespace Go.Proofs.YtekkpcpbnonkaaaGreatDoor.Rv
open Go
theorem nm_eq {a b : ByteArray} : nmEq a b = true ↔ a = b := by
  unfold nmEq
  rw [beq_iff_eq, ByteArray.toList_eq, ByteArray.toList_eq]
  constructor
  · intro h
    cases a; cases b
    simp at h; rw [h]
  · rintro rfl; rfl
def posE (n i : Int) (p : RvT) : Int :=
  if ¬ ((0 ≤ p.ls ∧ p.ls ≤ 500) ∧ (0 ≤ p.ht ∧ p.ht ≤ 9000)) then 7
  else if ¬ (-1 ≤ p.dn ∧ p.dn ≤ n - 1) then 4
  else if p.dn = i ∨ (p.dn = -1 ∧ p.ls ≠ 0) then 2 else 0
def rvE (r : List RvT) (i : Nat) : Int :=
  if nameB (r.getD i default).nm = false then 6
  else if ((r.take i).any fun q => nmEq q.nm (r.getD i default).nm) = true then 5
  else posE r.length i (r.getD i default)
def mouS (r : List RvT) (k : Nat) : List Nat := (List.range k).filter fun i => decide ((r.getD i default).dn = -1)
def reaB (r : List RvT) (i : Nat) : Bool := decide ((r.getD (stps r r.length i) default).dn = -1)
def chk (r : List RvT) : Int × Int × Int :=
  if ¬ (1 ≤ r.length ∧ r.length ≤ 9) then (1, 0, 3)
  else if (K.fst (rvE r) (List.range r.length)).2 ≠ 0 then (2, K.fst (rvE r) (List.range r.length))
  else if (mouS r r.length).length = 0 then (3, 0, 8)
  else if (mouS r r.length).length > 1 then (3, (((mouS r r.length).getD 1 0 : Nat) : Int), 2)
  else match (List.range r.length).find? (fun i => !reaB r i) with
    | some i => (3, (i : Int), 9)
    | none => (0, 0, 0)
section
variable {r : List RvT} {i k : Nat}
theorem pos_7 {n i : Int} {p : RvT} (h : ¬ ((0 ≤ p.ls ∧ p.ls ≤ 500) ∧ (0 ≤ p.ht ∧ p.ht ≤ 9000))) : posE n i p = 7 := by unfold posE; rw [if_pos h]
theorem pos_4 {n i : Int} {p : RvT} (h1 : (0 ≤ p.ls ∧ p.ls ≤ 500) ∧ (0 ≤ p.ht ∧ p.ht ≤ 9000)) (h : ¬ (-1 ≤ p.dn ∧ p.dn ≤ n - 1)) : posE n i p = 4 := by unfold posE; rw [if_neg (fun h' => h' h1), if_pos h]
theorem pos_2 {n i : Int} {p : RvT} (h1 : (0 ≤ p.ls ∧ p.ls ≤ 500) ∧ (0 ≤ p.ht ∧ p.ht ≤ 9000)) (h2 : -1 ≤ p.dn ∧ p.dn ≤ n - 1) (h : p.dn = i ∨ (p.dn = -1 ∧ p.ls ≠ 0)) : posE n i p = 2 := by unfold posE; rw [if_neg (fun h' => h' h1), if_neg (fun h' => h' h2), if_pos h]
theorem pos_0 {n i : Int} {p : RvT} (h1 : (0 ≤ p.ls ∧ p.ls ≤ 500) ∧ (0 ≤ p.ht ∧ p.ht ≤ 9000)) (h2 : -1 ≤ p.dn ∧ p.dn ≤ n - 1) (h : ¬ (p.dn = i ∨ (p.dn = -1 ∧ p.ls ≠ 0))) : posE n i p = 0 := by unfold posE; rw [if_neg (fun h' => h' h1), if_neg (fun h' => h' h2), if_neg h]
theorem rv_6 (h : nameB (r.getD i default).nm = false) : rvE r i = 6 := by unfold rvE; rw [if_pos h]
theorem rv_5 (h1 : nameB (r.getD i default).nm = true) (h : ((r.take i).any fun q => nmEq q.nm (r.getD i default).nm) = true) : rvE r i = 5 := by unfold rvE; rw [if_neg (by rw [h1]; simp), if_pos h]
theorem rv_p (h1 : nameB (r.getD i default).nm = true) (h : ((r.take i).any fun q => nmEq q.nm (r.getD i default).nm) = false) : rvE r i = posE r.length i (r.getD i default) := by unfold rvE; rw [if_neg (by rw [h1]; simp), if_neg (by rw [h]; simp)]
theorem rv_ok (h : rvE r i = 0) : nameB (r.getD i default).nm = true ∧ ((r.take i).any fun q => nmEq q.nm (r.getD i default).nm) = false ∧ posE r.length i (r.getD i default) = 0 := by
  cases h1 : nameB (r.getD i default).nm with
  | false => rw [rv_6 h1] at h; omega
  | true =>
    cases h2 : (r.take i).any fun q => nmEq q.nm (r.getD i default).nm with
    | true => rw [rv_5 h1 h2] at h; omega
    | false => rw [rv_p h1 h2] at h; exact ⟨rfl, rfl, h⟩
theorem pos_ok {n i : Int} {p : RvT} (h : posE n i p = 0) : ((0 ≤ p.ls ∧ p.ls ≤ 500) ∧ (0 ≤ p.ht ∧ p.ht ≤ 9000)) ∧ (-1 ≤ p.dn ∧ p.dn ≤ n - 1) ∧ ¬ (p.dn = i ∨ (p.dn = -1 ∧ p.ls ≠ 0)) := by
  unfold posE at h
  split at h
  · omega
  · rename_i h1
    split at h
    · omega
    · rename_i h2
      split at h
      · omega
      · rename_i h3
        exact ⟨Decidable.not_not.1 h1, Decidable.not_not.1 h2, h3⟩
theorem chk_1 (h : ¬ (1 ≤ r.length ∧ r.length ≤ 9)) : chk r = (1, 0, 3) := by unfold chk; rw [if_pos h]
theorem chk_2 (h1 : 1 ≤ r.length ∧ r.length ≤ 9) (h : (K.fst (rvE r) (List.range r.length)).2 ≠ 0) : chk r = (2, K.fst (rvE r) (List.range r.length)) := by unfold chk; rw [if_neg (fun h' => h' h1), if_pos h]
theorem chk_3 (h1 : 1 ≤ r.length ∧ r.length ≤ 9) (h2 : (K.fst (rvE r) (List.range r.length)).2 = 0) (h : (mouS r r.length).length = 0) : chk r = (3, 0, 8) := by unfold chk; rw [if_neg (fun h' => h' h1), if_neg (fun h' => h' h2), if_pos h]
theorem chk_4 (h1 : 1 ≤ r.length ∧ r.length ≤ 9) (h2 : (K.fst (rvE r) (List.range r.length)).2 = 0) (h : (mouS r r.length).length > 1) : chk r = (3, (((mouS r r.length).getD 1 0 : Nat) : Int), 2) := by unfold chk; rw [if_neg (fun h' => h' h1), if_neg (fun h' => h' h2), if_neg (by omega), if_pos h]
theorem chk_5 (h1 : 1 ≤ r.length ∧ r.length ≤ 9) (h2 : (K.fst (rvE r) (List.range r.length)).2 = 0) (h3 : (mouS r r.length).length = 1) (hi : i < r.length) (hall : ∀ j, j < i → reaB r j = true) (h : reaB r i = false) : chk r = (3, (i : Int), 9) := by
  unfold chk; rw [if_neg (fun h' => h' h1), if_neg (fun h' => h' h2), if_neg (by omega), if_neg (by omega)]
  have : (List.range r.length).find? (fun i => !reaB r i) = some i := by
    rw [List.find?_range_eq_some]
    exact ⟨by rw [h]; rfl, List.mem_range.2 hi, fun j hj => by rw [hall j hj]; rfl⟩
  rw [this]
theorem chk_0 (h1 : 1 ≤ r.length ∧ r.length ≤ 9) (h2 : (K.fst (rvE r) (List.range r.length)).2 = 0) (h3 : (mouS r r.length).length = 1) (hall : ∀ j, j < r.length → reaB r j = true) : chk r = (0, 0, 0) := by
  unfold chk; rw [if_neg (fun h' => h' h1), if_neg (fun h' => h' h2), if_neg (by omega), if_neg (by omega)]
  have : (List.range r.length).find? (fun i => !reaB r i) = none := by
    rw [List.find?_eq_none]
    intro j hj; rw [hall j (List.mem_range.1 hj)]; decide
  rw [this]
theorem mou_s (h : (r.getD k default).dn = -1) : mouS r (k + 1) = mouS r k ++ [k] := by unfold mouS; rw [List.range_succ, List.filter_append, List.filter_cons_of_pos (p := fun i => decide ((r.getD i default).dn = -1)) (decide_eq_true h), List.filter_nil]
theorem mou_n (h : (r.getD k default).dn ≠ -1) : mouS r (k + 1) = mouS r k := by unfold mouS; rw [List.range_succ, List.filter_append, List.filter_cons_of_neg (p := fun i => decide ((r.getD i default).dn = -1)) (fun h' => h (of_decide_eq_true h')), List.filter_nil, List.append_nil]
theorem mou_len : (mouS r k).length ≤ k := by unfold mouS; exact Nat.le_trans (List.length_filter_le _ _) (by simp)
theorem mou_mono (h : i ≤ k) : ∃ z, mouS r k = mouS r i ++ z := by
  induction k with
  | zero => exact ⟨[], by rw [show i = 0 by omega]; rfl⟩
  | succ k ih =>
    rcases Nat.lt_or_ge k i with h1 | h1
    · exact ⟨[], by rw [show i = k + 1 by omega, List.append_nil]⟩
    · obtain ⟨z, hz⟩ := ih h1
      by_cases hd : (r.getD k default).dn = -1
      · exact ⟨z ++ [k], by rw [mou_s hd, hz, List.append_assoc]⟩
      · exact ⟨z, by rw [mou_n hd, hz]⟩
theorem mou_two (h1 : (mouS r k).length = 1) (hd : (r.getD k default).dn = -1) (hk : k < r.length) : (mouS r r.length).length > 1 ∧ (mouS r r.length).getD 1 0 = k := by
  obtain ⟨z, hz⟩ := mou_mono (r := r) (show k + 1 ≤ r.length by omega)
  rw [mou_s hd] at hz
  obtain ⟨a, ha⟩ := List.length_eq_one_iff.1 h1
  rw [hz, ha]
  simp
theorem fst_0 {f : Nat → Int} {n : Nat} (h : ∀ j, j < n → f j = 0) : (K.fst f (List.range n)).2 = 0 := by
  rw [K.fst_none (fun j hj => ?_)]
  have : j < n := by simpa using hj
  rw [List.getD_eq_getElem?_getD, List.getElem?_range this]; exact h j this
theorem fst_at {f : Nat → Int} {n k : Nat} (hk : k < n) (h : ∀ j, j < k → f j = 0) (h1 : f k ≠ 0) : K.fst f (List.range n) = ((k : Int), f k) := by
  have e : ∀ j, j < n → (List.range n).getD j default = j := fun j hj => by rw [List.getD_eq_getElem?_getD, List.getElem?_range hj]; rfl
  rw [K.fst_found (k := k) (by simpa using hk) (fun j hj => by rw [e j (by omega)]; exact h j hj) (by rw [e k hk]; exact h1), e k hk]
theorem chk_good (h : (chk r).2.2 = 0) : Good r := by
  unfold chk at h
  split at h
  · simp at h
  · rename_i h1
    have h1 := Decidable.not_not.1 h1
    split at h
    · rename_i h2; exact absurd h h2
    · rename_i h2
      have h2 := Decidable.not_not.1 h2
      split at h
      · simp at h
      · rename_i h3
        split at h
        · simp at h
        · rename_i h4
          cases e : (List.range r.length).find? (fun i => !reaB r i) with
          | some i => rw [e] at h; simp at h
          | none =>
            have hall : ∀ i, i < r.length → rvE r i = 0 := by
              intro i hi
              by_cases h0 : ∃ k, k < r.length ∧ rvE r k ≠ 0
              · exfalso
                have hex : ∃ k, k < r.length ∧ rvE r k ≠ 0 ∧ ∀ j, j < k → rvE r j = 0 := by
                  obtain ⟨k, hk, hne⟩ := h0
                  induction k using Nat.strongRecOn with
                  | _ k ih =>
                    by_cases hs : ∃ j, j < k ∧ rvE r j ≠ 0
                    · obtain ⟨j, hj, hj2⟩ := hs
                      exact ih j hj (by omega) hj2
                    · exact ⟨k, hk, hne, fun j hj => Decidable.not_not.1 fun hn => hs ⟨j, hj, hn⟩⟩
                obtain ⟨k, hk, hne, hj⟩ := hex
                rw [fst_at hk hj hne] at h2
                exact hne h2
              · exact Decidable.not_not.1 fun hn => h0 ⟨i, hi, hn⟩
            have hp := fun i hi => pos_ok (rv_ok (hall i hi)).2.2
            refine ⟨h1, fun i hi => ?_, ?_, fun i hi => ?_⟩
            · obtain ⟨a, b, c⟩ := hp i hi
              exact ⟨a, b, fun hm => Decidable.not_not.1 fun hn => c (.inr ⟨hm, hn⟩)⟩
            · have hl : (mouS r r.length).length = 1 := by omega
              obtain ⟨a, ha⟩ := List.length_eq_one_iff.1 hl
              have hm : ∀ i, i ∈ mouS r r.length ↔ i < r.length ∧ (r.getD i default).dn = -1 := fun i => by
                unfold mouS; rw [List.mem_filter, List.mem_range, decide_eq_true_iff]
              rw [ha] at hm
              have h5 := (hm a).1 (List.mem_singleton.2 rfl)
              exact ⟨a, h5.1, h5.2, fun i hi hd => List.mem_singleton.1 ((hm i).2 ⟨hi, hd⟩)⟩
            · have := List.find?_eq_none.1 e i (List.mem_range.2 hi)
              have h6 : reaB r i = true := by simpa using this
              exact of_decide_eq_true h6
theorem stps_in (h : ∀ i, i < r.length → -1 ≤ (r.getD i default).dn ∧ (r.getD i default).dn ≤ (r.length : Int) - 1) (hi : i < r.length) : ∀ k, stps r k i < r.length
  | 0 => hi
  | k + 1 => by
    have h1 := stps_in h hi k
    have h2 := h _ h1
    show stp r (stps r k i) < _
    unfold stp
    split
    · exact h1
    · omega
theorem stps_up (h : (r.getD (stps r k i) default).dn ≠ -1) : stps r (k + 1) i = (r.getD (stps r k i) default).dn.toNat := stp_d h
theorem stps_st (h : (r.getD (stps r k i) default).dn = -1) : stps r (k + 1) i = stps r k i := stp_m h
theorem stps_rest (h : (r.getD (stps r k i) default).dn = -1) : ∀ {m : Nat}, k ≤ m → stps r m i = stps r k i := fun {m} hm => by
  have := stps_m h (m - k)
  rw [stps_add] at this
  rw [← this]; congr 1; omega
theorem chk_at (h1 : 1 ≤ r.length ∧ r.length ≤ 9) (hk : k < r.length) (hall : ∀ j, j < k → rvE r j = 0) (h : rvE r k ≠ 0) : chk r = (2, (k : Int), rvE r k) := by
  rw [chk_2 h1 (by rw [fst_at hk hall h]; exact h), fst_at hk hall h]
def kvS (r : List RvT) (k : Nat) : List (Value × Int) := (r.take k).map fun p => (Value.string p.nm, (1 : Int))
theorem kv_s (h : k < r.length) : kvS r (k + 1) = kvS r k ++ [(Value.string (r.getD k default).nm, 1)] := by
  unfold kvS
  rw [List.take_add_one, List.map_append, List.getD_eq_getElem?_getD, List.getElem?_eq_getElem h]; rfl
theorem kv_at {p : Value × Int} (h : p ∈ kvS r k) : ∃ q ∈ r.take k, p = (Value.string q.nm, 1) := by
  unfold kvS at h
  obtain ⟨q, hq, rfl⟩ := List.mem_map.1 h
  exact ⟨q, hq, rfl⟩
theorem kv_dup {s : ByteArray} : (∃ p ∈ kvS r k, p.1 = .string s) ↔ ((r.take k).any fun q => nmEq q.nm s) = true := by
  rw [List.any_eq_true]
  constructor
  · rintro ⟨p, hp, h⟩
    obtain ⟨q, hq, rfl⟩ := kv_at hp
    exact ⟨q, hq, nm_eq.2 (by injection h)⟩
  · rintro ⟨q, hq, h⟩
    exact ⟨_, List.mem_map_of_mem hq, by rw [nm_eq.1 h]⟩
theorem kv_fresh {s : ByteArray} (h : ∀ p ∈ kvS r k, p.1 ≠ .string s) : ((r.take k).any fun q => nmEq q.nm s) = false := by
  cases e : (r.take k).any fun q => nmEq q.nm s with
  | false => rfl
  | true => obtain ⟨p, hp, h2⟩ := kv_dup.2 e; exact absurd h2 (h p hp)
theorem take_at {q : RvT} (h : q ∈ r.take k) (hk : k ≤ r.length) : ∃ j, j < k ∧ q = r.getD j default := by
  obtain ⟨j, hj, e⟩ := List.mem_take_iff_getElem.1 h
  exact ⟨j, by omega, by rw [List.getD_eq_getElem?_getD, List.getElem?_eq_getElem (by omega)]; exact e.symm⟩
theorem kv_nm (hk : k ≤ r.length) (hall : ∀ j, j < k → rvE r j = 0) {p : Value × Int} (h : p ∈ kvS r k) : ∃ s : ByteArray, p = (.string s, 1) ∧ s.size ≤ 16 := by
  obtain ⟨q, hq, rfl⟩ := kv_at h
  obtain ⟨j, hj, rfl⟩ := take_at hq hk
  have h1 := (rv_ok (hall j hj)).1
  unfold nameB at h1
  rw [Bool.and_eq_true] at h1
  have := of_decide_eq_true h1.1
  exact ⟨_, rfl, by omega⟩
theorem nm_size {s : ByteArray} (h1 : nameB s = true) : s.size ≤ 16 := by
  unfold nameB at h1
  rw [Bool.and_eq_true] at h1
  have := of_decide_eq_true h1.1
  omega
theorem kv_nd (hk : k ≤ r.length) (hall : ∀ j, j < k → rvE r j = 0) : ((kvS r k).map (·.1)).Nodup := by
  induction k with
  | zero => simp [kvS]
  | succ k ih =>
    rw [kv_s (by omega), List.map_append]
    refine List.nodup_append.2 ⟨ih (by omega) (fun j hj => hall j (by omega)), by simp, fun a ha c hc he => ?_⟩
    obtain ⟨p, hp, rfl⟩ := List.mem_map.1 ha
    have hc2 : c = Value.string (r.getD k default).nm := by simpa using hc
    have := kv_dup.1 ⟨p, hp, he.trans hc2⟩
    rw [(rv_ok (hall k (by omega))).2.1] at this
    cases this
def MetOk (kvs : List (Value × Int)) (s : ByteArray) (p : Int × List (Value × Int)) : Prop :=
  ((∀ q ∈ kvs, q.1 ≠ .string s) ∧ p.1 = 1 ∧ p.2 = kvs ++ [(.string s, 1)]) ∨ ((∃ q ∈ kvs, q.1 = .string s) ∧ p.1 ≥ 2)
theorem met_ok {kvs kvs' : List (Value × Int)} {s : ByteArray} {n m : Int} (hv : ∀ p ∈ kvs, 1 ≤ p.2) (hd : (kvs.map (·.1)).Nodup) (h1 : (n = 0 ∧ ∀ p ∈ kvs, p.1 ≠ .string s) ∨ (.string s, n) ∈ kvs) (h2 : K.PutQ kvs (.string s) (n + 1) kvs')
    (h3 : (m = 0 ∧ ∀ p ∈ kvs', p.1 ≠ .string s) ∨ (.string s, m) ∈ kvs') : MetOk kvs s (m, kvs') := by
  rcases h2 with ⟨hno, rfl⟩ | ⟨j, n', hj, rfl⟩
  · left
    have hn : n = 0 := by
      rcases h1 with h | h
      · exact h.1
      · exact absurd rfl (hno _ h)
    subst hn
    refine ⟨hno, ?_, rfl⟩
    rcases h3 with ⟨_, h3⟩ | h3
    · exact absurd rfl (h3 (.string s, 0 + 1) (by simp))
    · rcases List.mem_append.1 h3 with h | h
      · exact absurd rfl (hno _ h)
      · simp at h; exact h
  · right
    have hmem := List.mem_of_getElem? hj
    have hjl : j < kvs.length := (List.getElem?_eq_some_iff.1 hj).1
    refine ⟨⟨_, hmem, rfl⟩, ?_⟩
    have huniq : ∀ (i : Nat) (x : Int), kvs[i]? = some (.string s, x) → i = j := fun i x hi => by
      have a1 : (kvs.map (·.1))[i]? = some (.string s) := by rw [List.getElem?_map, hi]; rfl
      have a2 : (kvs.map (·.1))[j]? = some (.string s) := by rw [List.getElem?_map, hj]; rfl
      have hil : i < kvs.length := (List.getElem?_eq_some_iff.1 hi).1
      exact (List.getElem?_inj (by simpa using hil) hd).1 (a1.trans a2.symm)
    have hn : n = n' := by
      rcases h1 with h | h
      · exact absurd rfl (h.2 _ hmem)
      · obtain ⟨i, hi⟩ := List.getElem?_of_mem h
        obtain rfl := huniq i _ hi
        rw [hi] at hj; injection hj with hj; injection hj with _ hj
    have hn1 := hv _ hmem
    simp only at hn1
    rcases h3 with ⟨_, h3⟩ | h3
    · refine absurd rfl (h3 (.string s, n + 1) (List.mem_of_getElem? (i := j) ?_))
      rw [List.getElem?_set_self hjl]
    · obtain ⟨i, hi⟩ := List.getElem?_of_mem h3
      by_cases hij : j = i
      · subst hij
        rw [List.getElem?_set_self hjl] at hi
        injection hi with hi; injection hi with _ hi
        show m ≥ 2
        omega
      · rw [List.getElem?_set_ne hij] at hi
        exact absurd (huniq i _ hi).symm hij
end
end Go.Proofs.YtekkpcpbnonkaaaGreatDoor.Rv
end
section
set_option linter.unusedSimpArgs false
set_option linter.unusedVariables false
namespace Go.Proofs.YtekkpcpbnonkaaaGreatDoor.Rv
open Go.RowKit Go
open Go.K (setd setn ev nth over cl eI eP eT setM setF)
attribute [local irreducible] K.blk K.row
theorem bs1 (a : Int) : K.Bs Tryz.prog 28 1 [(0, .int .i64 a)] 3 [.int .i64 a] := fun w => by kernel_rfl

set_option maxRecDepth 100000 in
theorem c49 {n a b : Int} (w : World) :
    Calls Tryz.prog 15 [.int .i64 n, .int .i64 a, .int .i64 b].toArray w (K.Gives (.bool (decide (a ≤ n ∧ n ≤ b))) w) := by
  refine K.enter (args := [.int .i64 n, .int .i64 a, .int .i64 b]) Tryz.func15 rfl (n := 12) rfl ?_
  simp only [List.replicate, List.cons_append, List.nil_append]
  refine sr ?_
  refine qa ?_
  refine sn ?_
  refine sr ?_
  iterate 2 refine qm ?_
  refine qp (K.geq rfl rfl) ?_
  refine qm ?_
  refine K.split 10 rfl (fun hg10 => ?_) (fun hg10 => ?_)
  · try replace hg10 := of_decide_eq_true hg10
    iterate 2 refine qm ?_
    refine qp (K.leq rfl rfl) ?_
    refine qp (K.pick_t rfl) ?_
    refine qa ?_
    refine sn ?_
    refine K.ret ?_
    refine K.end_ret (fun w _ => K.res_tmp rfl w) ?_
    exact K.gives_b rfl (by rw [eq_comm, decide_eq_decide.2 (by omega : (a ≤ n ∧ n ≤ b) ↔ n ≤ b)])
  try replace hg10 := of_decide_eq_false hg10
  iterate 3 refine qs ?_
  refine qp (K.pick_f rfl) ?_
  refine qa ?_
  refine sn ?_
  refine K.ret ?_
  refine K.end_ret (fun w _ => K.res_tmp rfl w) ?_
  exact K.gives_b rfl (by rw [eq_comm, decide_eq_false_iff_not]; omega)

set_option maxRecDepth 100000 in
theorem c96 {n a b : Int} (w : World) :
    Calls Tryz.prog 82 [.int .i64 n, .int .i64 a, .int .i64 b].toArray w (K.Gives (.bool (decide (a ≤ n ∧ n ≤ b))) w) := by
  refine K.enter (args := [.int .i64 n, .int .i64 a, .int .i64 b]) Tryz.func82 rfl (n := 12) rfl ?_
  simp only [List.replicate, List.cons_append, List.nil_append]
  refine sr ?_
  refine qa ?_
  refine sn ?_
  refine sr ?_
  iterate 2 refine qm ?_
  refine qp (K.geq rfl rfl) ?_
  refine qm ?_
  refine K.split 10 rfl (fun hg10 => ?_) (fun hg10 => ?_)
  · try replace hg10 := of_decide_eq_true hg10
    iterate 2 refine qm ?_
    refine qp (K.leq rfl rfl) ?_
    refine qp (K.pick_t rfl) ?_
    refine qa ?_
    refine sn ?_
    refine K.ret ?_
    refine K.end_ret (fun w _ => K.res_tmp rfl w) ?_
    exact K.gives_b rfl (by rw [eq_comm, decide_eq_decide.2 (by omega : (a ≤ n ∧ n ≤ b) ↔ n ≤ b)])
  try replace hg10 := of_decide_eq_false hg10
  iterate 3 refine qs ?_
  refine qp (K.pick_f rfl) ?_
  refine qa ?_
  refine sn ?_
  refine K.ret ?_
  refine K.end_ret (fun w _ => K.res_tmp rfl w) ?_
  exact K.gives_b rfl (by rw [eq_comm, decide_eq_false_iff_not]; omega)

set_option maxRecDepth 100000 in
theorem c81 {n lo hi : Int} {p q : Addr} {w : World} (hp : w.cell? p = some (.int .i64 lo)) (hq : w.cell? q = some (.int .i64 hi)) :
    Calls Tryz.prog 95 [.int .i64 n, .pointer (some p), .pointer (some q)].toArray w (K.Gives (.bool (decide (n < lo) || decide (n > hi))) w) := by
  refine K.enter (args := [.int .i64 n, .pointer (some p), .pointer (some q)]) Tryz.func95 rfl (n := 10) rfl ?_
  simp only [List.replicate, List.cons_append, List.nil_append]
  refine sr ?_
  refine qa ?_
  refine sn ?_
  refine sr ?_
  refine qm ?_
  refine K.seq_sil (K.load1 one_3 rfl ((K.PtrL.cell1 hp).any)) rfl ?_
  refine zN ?_
  refine qp (K.lss rfl rfl) ?_
  refine qm ?_
  refine K.split 8 rfl (fun hg8 => ?_) (fun hg8 => ?_)
  · try replace hg8 := of_decide_eq_true hg8
    iterate 3 refine qs ?_
    refine qp (K.pick_t rfl) ?_
    refine qa ?_
    refine sn ?_
    refine K.ret ?_
    refine K.end_ret (fun w _ => K.res_tmp rfl w) ?_
    exact K.gives_b rfl (by simp [hg8])
  try replace hg8 := of_decide_eq_false hg8
  refine qm ?_
  refine K.seq_sil (K.load1 one_3 rfl ((K.PtrL.cell1 hq).any)) rfl ?_
  refine zN ?_
  refine qp (K.gtr rfl rfl) ?_
  refine qp (K.pick_f rfl) ?_
  refine qa ?_
  refine sn ?_
  refine K.ret ?_
  refine K.end_ret (fun w _ => K.res_tmp rfl w) ?_
  exact K.gives_b rfl (by simp [hg8])

set_option maxRecDepth 100000 in
theorem c91 {A : Option Addr} {c f : Nat} {cap : List Value} {xs : List Int} {p : Int → Bool} {w : World} (hR : K.Rd w A 1 K.eI xs) (hn : xs.length ≤ 4611686018427387904) (hcal : K.callable Tryz.prog f = true) (hf : ∀ x ∈ xs, ∀ w1, Below w.heap.size w w1 → Calls Tryz.prog f ([Value.int .i64 x] ++ cap).toArray w1 (K.Gives (.bool (p x)) w1)) :
    Calls Tryz.prog 98 [.slice A xs.length c, .func (.func f) #[] cap.toArray].toArray w (K.Gives (.int .i64 (K.idx p xs)) w) := by
  refine K.enter (args := [.slice A xs.length c, .func (.func f) #[] cap.toArray]) Tryz.func98 rfl (n := 17) rfl ?_
  simp only [List.replicate, List.cons_append, List.nil_append]
  refine sr ?_
  refine qa ?_
  refine sn ?_
  refine K.seq ?_
  refine sr ?_
  refine qm ?_
  refine qp (K.len_sl sl_28 rfl) ?_
  refine qm ?_
  refine sn ?_
  refine K.block ?_
  refine K.loopW [8] [4, 5, 9, 10, 11, 12, 13, 14, 15, 16, 17, 18] (fun vi L => ∃ k : Nat, vi = [.int .i64 (k : Int)] ∧ L = [] ∧ k ≤ xs.length ∧ ∀ j, j < k → p (xs.getD j default) = false) (fun vi => xs.length - (intOf (K.nth vi 0)).toNat) ?_ ?_
  · exact ⟨0, rfl, rfl, Nat.zero_le _, fun j hj => absurd hj (Nat.not_lt_zero j)⟩
  intro vi vr L hJ
  obtain ⟨k, rfl, rfl, hkn, hall⟩ := hJ
  try dsimp only [setd, setn, ev, nth, over, cl, eI, eP, eT, eR, setM, setF, List.map, List.append, List.drop, List.take]
  refine sr ?_
  refine qp (K.lss rfl rfl) ?_
  refine sn ?_
  refine K.seq ?_
  refine K.cond rfl (fun ht9 => ?_) (fun ht9 => ?_)
  · try replace ht9 := of_decide_eq_true ht9
    have hk : k < xs.length := by omega
    refine K.skip ?_
    refine K.norm_then ?_
    refine K.seq ?_
    refine K.block ?_
    refine sr ?_
    refine qm ?_
    refine qa ?_
    refine sn ?_
    refine sr ?_
    iterate 3 refine qm ?_
    refine K.seq_ix (M := []) _ hR.sl sl_28 rfl rfl rfl (by omega) rfl ?_
    intro p14 hp14
    refine zN ?_
    refine K.seq_sil (K.load1 one_3 rfl (hp14.any)) rfl ?_
    refine zN ?_
    refine K.seq_call (K.callv_g (first := []) (cap := cap) rfl hcal (fun F w1 _ hw => hf _ (K.gt_mem hk) w1 hw.1)) rfl ?_
    refine zN ?_
    refine sn ?_
    refine K.cond rfl (fun ht16 => ?_) (fun ht16 => ?_)
    · try replace ht16 := of_decide_eq_true ht16
      refine sr ?_
      refine qm ?_
      refine qa ?_
      refine sn ?_
      refine K.ret ?_
      refine K.ret_block ?_
      refine K.ret_then ?_
      refine K.ret_then ?_
      refine K.ret_block ?_
      refine K.ret_then ?_
      refine K.end_ret (fun w _ => K.res_tmp rfl w) ?_
      exact K.gives_i rfl (K.idx_found hk hall ht16).symm
    try replace ht16 := of_decide_eq_false ht16
    refine K.skip ?_
    refine K.norm_block ?_
    refine K.norm_then ?_
    refine K.region_lit ?_
    refine qp (K.add_i64 rfl rfl (by omega)) ?_
    refine qm ?_
    refine K.seq_nil ?_
    exact K.round_endW [.int .i64 ((k : Int) + 1)] ⟨k + 1, rfl, rfl, by omega, K.lt_succ_case hall ht16⟩ (by simp [K.nth, intOf]; omega) (List.Sublist.refl _) (by kernel_rfl)
  try replace ht9 := of_decide_eq_false ht9
  refine K.exit ?_
  refine K.exit_then ?_
  refine K.exit_then ?_
  refine K.exit_here ?_
  refine K.norm_then ?_
  refine sr ?_
  refine qa ?_
  refine sn ?_
  refine K.ret ?_
  refine K.end_ret (fun w _ => K.res_tmp rfl w) ?_
  exact K.gives_i rfl (K.idx_none (fun j hj => hall j (by omega))).symm

set_option maxRecDepth 100000 in
theorem c69 {A : Option Addr} {c f : Nat} {cap : List Value} {xs : List Int} {p : Int → Bool} {w : World} (hR : K.Rd w A 1 K.eI xs) (hn : xs.length ≤ 4611686018427387904) (hcal : K.callable Tryz.prog f = true) (hf : ∀ x ∈ xs, ∀ w1, Below w.heap.size w w1 → Calls Tryz.prog f ([Value.int .i64 x] ++ cap).toArray w1 (K.Gives (.bool (p x)) w1)) :
    Calls Tryz.prog 71 [.slice A xs.length c, .func (.func f) #[] cap.toArray].toArray w (K.Gives (.bool (xs.any p)) w) := by
  refine K.enter (args := [.slice A xs.length c, .func (.func f) #[] cap.toArray]) Tryz.func71 rfl (n := 7) rfl ?_
  simp only [List.replicate, List.cons_append, List.nil_append]
  refine sr ?_
  refine qa ?_
  refine sn ?_
  refine sr ?_
  iterate 2 refine qm ?_
  refine K.seq_call (K.call_g cal_98 (fun F w hF hw => c91 (p := p) (cap := cap) (hR.pass hw) hn hcal (fun x hx w1 hb => hf x hx w1 (hw.1.trans (hb.mono hw.1.size))))) rfl ?_
  refine zN ?_
  refine qp (K.geq rfl rfl) ?_
  refine qa ?_
  refine sn ?_
  refine K.ret ?_
  refine K.end_ret (fun w _ => K.res_tmp rfl w) ?_
  exact K.gives_b rfl K.idx_ge

set_option maxRecDepth 100000 in
theorem c46 {lo hi : Int} {A : Option Addr} {c : Nat} {xs : List Int} {w : World} (hR : K.Rd w A 1 K.eI xs) (hn : xs.length ≤ 4611686018427387904) :
    Calls Tryz.prog 64 [.int .i64 lo, .int .i64 hi, .slice A xs.length c].toArray w (K.Gives (.bool (outB lo hi xs)) w) := by
  refine K.enter (args := [.int .i64 lo, .int .i64 hi, .slice A xs.length c]) Tryz.func64 rfl (n := 7) rfl ?_
  simp only [List.replicate, List.cons_append, List.nil_append]
  refine sr ?_
  refine K.seq_new (K.box) rfl ?_
  intro b3
  refine zN ?_
  refine K.seq_new (K.box) rfl ?_
  intro b4
  refine zN ?_
  refine qa ?_
  refine sn ?_
  refine sr ?_
  refine qm ?_
  refine K.seq_pure (K.mkFunc) rfl ?_
  refine zN ?_
  refine K.seq_call (K.call_g cal_71 (fun F w hF hw => c69 (cap := [.pointer (some ⟨b3, 0, none⟩), .pointer (some ⟨b4, 0, none⟩)]) (hR.pass hw) hn cal_95 (fun x _ w1 hb => c81 (K.cell_later hw (hF _ (K.m1)) rfl hb) (K.cell_later hw (hF _ (K.m0)) rfl hb)))) rfl ?_
  refine zN ?_
  refine qa ?_
  refine sn ?_
  refine K.ret ?_
  refine K.end_ret (fun w _ => K.res_tmp rfl w) ?_
  exact K.gives rfl

theorem c46_1 {lo hi x : Int} {w0 w : World} {F : List K.Chunk} {b : Nat} (hw : K.St w0 F w) (hm : K.blk b 3 [.int .i64 x] ∈ F) :
    Calls Tryz.prog 64 [.int .i64 lo, .int .i64 hi, .slice (some ⟨b, 0, none⟩) 1 1].toArray w (K.Gives (.bool (decide (¬ (lo ≤ x ∧ x ≤ hi)))) w) := by
  have h := c46 (lo := lo) (hi := hi) (c := 1) (xs := [x]) (K.Rd.lit hw hm (fun _ => rfl) (by decide) rfl) (by simp)
  have e : outB lo hi [x] = decide (¬ (lo ≤ x ∧ x ≤ hi)) := by
    rw [Bool.eq_iff_iff]; simp [outB]
    try omega
  rw [e] at h
  exact h


end Go.Proofs.YtekkpcpbnonkaaaGreatDoor.Rv
end
section
set_option linter.unusedSimpArgs false
set_option linter.unusedVariables false
namespace Go.Proofs.YtekkpcpbnonkaaaGreatDoor.Rv
open Go.RowKit Go
open Go.K (setd setn ev nth over cl eI eP eT setM setF)
attribute [local irreducible] K.blk K.row
def Tab (w : World) : Prop := 1 < w.heap.size ∧ K.PtrL w [] ⟨1, 0, none⟩ tab64
theorem Tab.pass {w0 w : World} {F : List K.Chunk} (h : Tab w0) (hw : K.St w0 F w) : Tab w := ⟨K.lt_into h.1 hw, h.2.into h.1 hw⟩
theorem bs0 : K.Bs Tryz.prog 28 0 [] 3 [] := fun w => by kernel_rfl
def uand (a b : Int) : Int := IntKind.u64.wrap (BitVec.ofInt IntKind.u64.bits a &&& BitVec.ofInt IntKind.u64.bits b).toNat
def ushr (a n : Int) : Int := a.fdiv (2 ^ min n.toNat IntKind.u64.bits)
def oc1 (x : Int) : Int := IntKind.u64.wrap (uand (ushr x 1) 6148914691236517205 + uand x 6148914691236517205)
def oc2 (x : Int) : Int := IntKind.u64.wrap (uand (ushr x 2) 3689348814741910323 + uand x 3689348814741910323)
def oc3 (x : Int) : Int := uand (IntKind.u64.wrap (ushr x 4 + x)) 1085102592571150095
def oc4 (n x : Int) : Int := IntKind.u64.wrap (x + ushr x n)
def oc5 (x : Int) : Int := IntKind.i64.wrap (BitVec.ofInt IntKind.i64.bits (IntKind.i64.wrap x) &&& BitVec.ofInt IntKind.i64.bits 127).toNat
def ocC (s : Nat) : Bool := decide (oc5 (oc4 32 (oc4 16 (oc4 8 (oc3 (oc2 (oc1 ((s : Nat) : Int))))))) = (((bitsL ((s : Nat) : Int)).length : Nat) : Int))
theorem oc_0 : (List.range 32).all (fun s => ocC (s + 0)) = true := by decide +kernel
theorem oc_1 : (List.range 32).all (fun s => ocC (s + 32)) = true := by decide +kernel
theorem oc_2 : (List.range 32).all (fun s => ocC (s + 64)) = true := by decide +kernel
theorem oc_3 : (List.range 32).all (fun s => ocC (s + 96)) = true := by decide +kernel
theorem oc_4 : (List.range 32).all (fun s => ocC (s + 128)) = true := by decide +kernel
theorem oc_5 : (List.range 32).all (fun s => ocC (s + 160)) = true := by decide +kernel
theorem oc_6 : (List.range 32).all (fun s => ocC (s + 192)) = true := by decide +kernel
theorem oc_7 : (List.range 32).all (fun s => ocC (s + 224)) = true := by decide +kernel
theorem oc_8 : (List.range 32).all (fun s => ocC (s + 256)) = true := by decide +kernel
theorem oc_9 : (List.range 32).all (fun s => ocC (s + 288)) = true := by decide +kernel
theorem oc_10 : (List.range 32).all (fun s => ocC (s + 320)) = true := by decide +kernel
theorem oc_11 : (List.range 32).all (fun s => ocC (s + 352)) = true := by decide +kernel
theorem oc_12 : (List.range 32).all (fun s => ocC (s + 384)) = true := by decide +kernel
theorem oc_13 : (List.range 32).all (fun s => ocC (s + 416)) = true := by decide +kernel
theorem oc_14 : (List.range 32).all (fun s => ocC (s + 448)) = true := by decide +kernel
theorem oc_15 : (List.range 32).all (fun s => ocC (s + 480)) = true := by decide +kernel
theorem oc_val {x : Int} (hs : 0 ≤ x ∧ x ≤ 511) : oc5 (oc4 32 (oc4 16 (oc4 8 (oc3 (oc2 (oc1 x)))))) = ((bitsL x).length : Int) := by
  obtain ⟨n, rfl⟩ := Int.eq_ofNat_of_zero_le hs.1
  have key : ∀ k m, (List.range 32).all (fun n => ocC (n + m)) = true → m = 32 * k → n / 32 = k → ocC n = true := fun k m hk hm hn => by
    have := List.all_eq_true.1 hk (n % 32) (List.mem_range.2 (by omega))
    rwa [show n % 32 + m = n by omega] at this
  have h : ocC n = true := by
    have hd : n / 32 < 16 := by omega
    generalize e : n / 32 = q at hd
    rcases (show q = 0 ∨ q = 1 ∨ q = 2 ∨ q = 3 ∨ q = 4 ∨ q = 5 ∨ q = 6 ∨ q = 7 ∨ q = 8 ∨ q = 9 ∨ q = 10 ∨ q = 11 ∨ q = 12 ∨ q = 13 ∨ q = 14 ∨ q = 15 by omega) with rfl | rfl | rfl | rfl | rfl | rfl | rfl | rfl | rfl | rfl | rfl | rfl | rfl | rfl | rfl | rfl
    · exact key 0 _ oc_0 rfl e
    · exact key 1 _ oc_1 rfl e
    · exact key 2 _ oc_2 rfl e
    · exact key 3 _ oc_3 rfl e
    · exact key 4 _ oc_4 rfl e
    · exact key 5 _ oc_5 rfl e
    · exact key 6 _ oc_6 rfl e
    · exact key 7 _ oc_7 rfl e
    · exact key 8 _ oc_8 rfl e
    · exact key 9 _ oc_9 rfl e
    · exact key 10 _ oc_10 rfl e
    · exact key 11 _ oc_11 rfl e
    · exact key 12 _ oc_12 rfl e
    · exact key 13 _ oc_13 rfl e
    · exact key 14 _ oc_14 rfl e
    · exact key 15 _ oc_15 rfl e
  exact of_decide_eq_true h

set_option maxRecDepth 100000 in
theorem c98 {x : Int} {w : World} (hT : Tab w) (hx : 1 ≤ x ∧ x ≤ 511) :
    Calls Tryz.prog 116 [.int .u64 x].toArray w (K.Gives (.int .i64 (tzS x)) w) := by
  obtain ⟨hi, hta, htz⟩ := idx_at hx
  refine K.enter (args := [.int .u64 x]) Tryz.func116 rfl (n := 13) rfl ?_
  simp only [List.replicate, List.cons_append, List.nil_append]
  refine sr ?_
  refine qa ?_
  refine sn ?_
  refine K.seq ?_
  refine sr ?_
  refine qm ?_
  refine qp (K.eql rfl rfl) ?_
  refine sn ?_
  refine K.cond_false (by exact congrArg Value.bool (decide_eq_false (by omega))) ?_
  refine K.skip ?_
  refine K.norm_then ?_
  refine sr ?_
  iterate 2 refine qm ?_
  refine qp (K.neg_wrap rfl) ?_
  refine qp (K.and_int rfl rfl) ?_
  refine qp (K.mul_wrap rfl rfl) ?_
  refine qp (K.Pure.eq (K.shr_int rfl rfl (by omega)) (show _ = Value.int .u64 (idxZ x) from rfl)) ?_
  refine K.seq_pure (K.indexAddr_ar ar_172 rfl rfl (by omega) (by omega)) rfl ?_
  refine zN ?_
  refine K.seq_sil (K.load_at one_5 rfl hT.2.any hta) rfl ?_
  refine zN ?_
  refine K.seq_pure (K.Pure.eq (K.conv_int ik_5 ik_3 rfl) (show _ = Value.int .i64 (tzS x) from by rw [IntWalk.i64_in _ (by omega)])) rfl ?_
  refine zN ?_
  refine qa ?_
  refine sn ?_
  refine K.ret ?_
  refine K.end_ret (fun w _ => K.res_tmp rfl w) ?_
  exact K.gives rfl

set_option maxRecDepth 100000 in
theorem c85 {x : Int} {w : World} (hT : Tab w) (hx : 1 ≤ x ∧ x ≤ 511) :
    Calls Tryz.prog 96 [.int .u64 x].toArray w (K.Gives (.int .i64 (tzS x)) w) := by
  refine K.enter (args := [.int .u64 x]) Tryz.func96 rfl (n := 7) rfl ?_
  simp only [List.replicate, List.cons_append, List.nil_append]
  refine sr ?_
  refine qa ?_
  refine sn ?_
  refine K.seq ?_
  refine K.cond_false rfl ?_
  refine K.skip ?_
  refine K.norm_then ?_
  refine sr ?_
  refine qm ?_
  refine K.seq_call (K.call_g cal_116 (fun F w hF hw => c98 (hT.pass hw) hx)) rfl ?_
  refine zN ?_
  refine qa ?_
  refine sn ?_
  refine K.ret ?_
  refine K.end_ret (fun w _ => K.res_tmp rfl w) ?_
  exact K.gives rfl

set_option maxRecDepth 100000 in
theorem c60 {s : Int} {w : World} (hT : Tab w) (hs : 0 ≤ s ∧ s ≤ 511) :
    Calls Tryz.prog 65 [.int .i64 s].toArray w (K.RetS 3 1 K.eI (bitsL s) w) := by
  refine K.enter (args := [.int .i64 s]) Tryz.func65 rfl (n := 15) rfl ?_
  simp only [List.replicate, List.cons_append, List.nil_append]
  refine sr ?_
  refine qa ?_
  refine sn ?_
  refine K.seq ?_
  refine K.block ?_
  refine K.nil_row (e := 3) (size := 1) ?_
  refine K.loopW [0, 2] [3, 4, 5, 6, 7, 8, 9, 10, 11, 12, 13, 14] (fun vi L => ∃ (c1 : Int) (xs : List Int) (Q1 : Option Addr) (q1 : Nat), vi = [.int .i64 c1, .slice Q1 xs.length q1] ∧ L = [K.row (.slice Q1 xs.length q1) 3 1 xs.length (xs.flatMap K.eI)] ∧ (0 ≤ c1 ∧ c1 ≤ 511) ∧ bitsL s = xs ++ bitsL c1) (fun vi => (intOf (K.nth vi 0)).toNat) ?_ ?_
  · exact ⟨s, [], none, 0, rfl, rfl, hs, rfl⟩
  intro vi vr L hJ
  obtain ⟨c1, xs, Q1, q1, rfl, rfl, hc, hxs⟩ := hJ
  try dsimp only [setd, setn, ev, nth, over, cl, eI, eP, eT, eR, setM, setF, List.map, List.append, List.drop, List.take]
  refine K.seq ?_
  refine sr ?_
  refine qm ?_
  refine qp (K.neq rfl rfl) ?_
  refine sn ?_
  refine K.cond rfl (fun ht4 => ?_) (fun ht4 => ?_)
  · try replace ht4 := of_decide_eq_true ht4
    have hb1 := bits_at (x := c1) (by omega)
    have hxl : xs.length ≤ 9 := by have := congrArg List.length hxs; rw [List.length_append] at this; have := bits_len (x := s); omega
    refine K.skip ?_
    refine K.norm_then ?_
    refine K.seq ?_
    refine K.block ?_
    refine K.region_lit ?_
    iterate 2 refine qm ?_
    refine K.seq_pure (K.Pure.eq (K.conv_int ik_3 ik_126 rfl) (show _ = Value.int .u64 c1 from by rw [IntWalk.u64_in _ (by omega)])) rfl ?_
    refine zN ?_
    refine K.seq_call (K.call_g cal_96 (fun F w hF hw => c85 (hT.pass hw) (by omega))) rfl ?_
    refine zN ?_
    refine K.seq_new (K.buildSlice (bs1 _)) rfl ?_
    intro b13
    refine zN ?_
    refine K.seq_upd (K.append el_28 rfl rfl (K.PtrL.own' (K.m0)) rfl rfl (by decide) (by omega) (by omega) (fun _ _ => K.rp1)) rfl ?_
    rintro ⟨g14, c14⟩ _
    refine zN ?_
    refine qa ?_
    refine K.seq_nil ?_
    refine K.norm_block ?_
    refine K.norm_then ?_
    refine K.region_lit ?_
    iterate 2 refine qm ?_
    refine qp (K.sub_i64 rfl rfl (by omega)) ?_
    refine qp (K.Pure.eq (K.and_int rfl rfl) (show _ = Value.int .i64 (andS c1) from rfl)) ?_
    refine qa ?_
    refine K.seq_nil ?_
    have hm1 : (andS c1).toNat < c1.toNat := by omega
    exact K.round_endW (L'' := [K.row (.slice (some ⟨g14, 0, none⟩) (xs.length + 1) c14) 3 1 (xs.length + 1) (xs.flatMap K.eI ++ [.int .i64 (tzS c1)])]) [.int .i64 (andS c1), .slice (some ⟨g14, 0, none⟩) (xs.length + 1) c14] ⟨andS c1, xs ++ [tzS c1], some ⟨g14, 0, none⟩, c14, by rw [List.length_append]; rfl, by rw [List.length_append, List.flatMap_append]; rfl, by omega, by rw [hxs, hb1.2, List.append_assoc]; rfl⟩ hm1 (by repeat (first | exact List.Sublist.refl _ | apply List.Sublist.cons)) (by kernel_rfl)
  try replace ht4 := of_decide_eq_false ht4
  refine K.exit ?_
  refine K.exit_then ?_
  refine K.exit_then ?_
  refine K.exit_here ?_
  refine K.norm_then ?_
  refine sr ?_
  refine qm ?_
  refine qa ?_
  refine sn ?_
  refine K.ret ?_
  refine K.end_ret (fun w _ => K.res_tmp rfl w) ?_
  have h0 : c1 = 0 := Decidable.not_not.1 ht4
  subst h0
  rw [bits_0, List.append_nil] at hxs
  exact K.rets_s K.m0 (by rw [hxs]) (by rw [hxs]) rfl

set_option maxRecDepth 100000 in
theorem c100 {x : Int} (hx : 0 ≤ x ∧ x ≤ 511) (w : World) :
    Calls Tryz.prog 93 [.int .u64 x].toArray w (K.Gives (.int .i64 (bitsL x).length) w) := by
  refine K.enter (args := [.int .u64 x]) Tryz.func93 rfl (n := 34) rfl ?_
  simp only [List.replicate, List.cons_append, List.nil_append]
  refine sr ?_
  refine qa ?_
  refine sn ?_
  refine sr ?_
  refine qm ?_
  refine qp (K.shr_int rfl rfl (by decide)) ?_
  refine qp (K.and_int rfl rfl) ?_
  refine qm ?_
  refine qp (K.and_int rfl rfl) ?_
  refine qp (K.Pure.eq (K.add_wrap rfl rfl) (show _ = .int .u64 (oc1 x) from rfl)) ?_
  refine qa ?_
  refine sn ?_
  refine sr ?_
  refine qm ?_
  refine qp (K.shr_int rfl rfl (by decide)) ?_
  refine qp (K.and_int rfl rfl) ?_
  refine qm ?_
  refine qp (K.and_int rfl rfl) ?_
  refine qp (K.Pure.eq (K.add_wrap rfl rfl) (show _ = .int .u64 (oc2 (oc1 x)) from rfl)) ?_
  refine qa ?_
  refine sn ?_
  refine sr ?_
  refine qm ?_
  refine qp (K.shr_int rfl rfl (by decide)) ?_
  refine qm ?_
  refine qp (K.add_wrap rfl rfl) ?_
  refine qp (K.Pure.eq (K.and_int rfl rfl) (show _ = .int .u64 (oc3 (oc2 (oc1 x))) from rfl)) ?_
  refine qa ?_
  refine sn ?_
  refine sr ?_
  iterate 2 refine qm ?_
  refine qp (K.shr_int rfl rfl (by decide)) ?_
  refine qp (K.Pure.eq (K.add_wrap rfl rfl) (show _ = .int .u64 (oc4 8 (oc3 (oc2 (oc1 x)))) from rfl)) ?_
  refine qa ?_
  refine sn ?_
  refine sr ?_
  iterate 2 refine qm ?_
  refine qp (K.shr_int rfl rfl (by decide)) ?_
  refine qp (K.Pure.eq (K.add_wrap rfl rfl) (show _ = .int .u64 (oc4 16 (oc4 8 (oc3 (oc2 (oc1 x))))) from rfl)) ?_
  refine qa ?_
  refine sn ?_
  refine sr ?_
  iterate 2 refine qm ?_
  refine qp (K.shr_int rfl rfl (by decide)) ?_
  refine qp (K.Pure.eq (K.add_wrap rfl rfl) (show _ = .int .u64 (oc4 32 (oc4 16 (oc4 8 (oc3 (oc2 (oc1 x)))))) from rfl)) ?_
  refine qa ?_
  refine sn ?_
  refine sr ?_
  refine qm ?_
  refine K.seq_pure (K.conv_int ik_156 ik_3 rfl) rfl ?_
  refine zN ?_
  refine qp (K.and_int rfl rfl) ?_
  refine qa ?_
  refine sn ?_
  refine K.ret ?_
  refine K.end_ret (fun w _ => K.res_tmp rfl w) ?_
  exact K.gives_i rfl (oc_val hx)

set_option maxRecDepth 100000 in
theorem c86 {x : Int} (hx : 0 ≤ x ∧ x ≤ 511) (w : World) :
    Calls Tryz.prog 62 [.int .u64 x].toArray w (K.Gives (.int .i64 (bitsL x).length) w) := by
  refine K.enter (args := [.int .u64 x]) Tryz.func62 rfl (n := 7) rfl ?_
  simp only [List.replicate, List.cons_append, List.nil_append]
  refine sr ?_
  refine qa ?_
  refine sn ?_
  refine K.seq ?_
  refine K.cond_false rfl ?_
  refine K.skip ?_
  refine K.norm_then ?_
  refine sr ?_
  refine qm ?_
  refine K.seq_call (K.call_g cal_93 (fun F w hF hw => c100 hx w)) rfl ?_
  refine zN ?_
  refine qa ?_
  refine sn ?_
  refine K.ret ?_
  refine K.end_ret (fun w _ => K.res_tmp rfl w) ?_
  exact K.gives rfl

set_option maxRecDepth 100000 in
theorem c101 {a : Int} (w : World) :
    Calls Tryz.prog 114 [.int .i64 a].toArray w (K.Gives (.bool false) w) := by
  refine K.enter (args := [.int .i64 a]) Tryz.func114 rfl (n := 5) rfl ?_
  simp only [List.replicate, List.cons_append, List.nil_append]
  refine sr ?_
  refine qa ?_
  refine sn ?_
  refine sr ?_
  iterate 2 refine qm ?_
  refine qp (K.neq rfl rfl) ?_
  refine qa ?_
  refine sn ?_
  refine K.ret ?_
  refine K.end_ret (fun w _ => K.res_tmp rfl w) ?_
  exact K.gives_b rfl (by simp)

set_option maxRecDepth 100000 in
theorem c88 {a b : Int} (w : World) :
    Calls Tryz.prog 94 [.int .i64 a, .int .i64 b].toArray w (K.Gives (.int .i64 (cmpS a b)) w) := by
  refine K.enter (args := [.int .i64 a, .int .i64 b]) Tryz.func94 rfl (n := 18) rfl ?_
  simp only [List.replicate, List.cons_append, List.nil_append]
  refine sr ?_
  refine qa ?_
  refine sn ?_
  refine sr ?_
  refine qm ?_
  refine K.seq_call (K.call_g cal_114 (fun F w hF hw => c101 w)) rfl ?_
  refine zN ?_
  refine qa ?_
  refine sn ?_
  refine sr ?_
  refine qm ?_
  refine K.seq_call (K.call_g cal_114 (fun F w hF hw => c101 w)) rfl ?_
  refine zN ?_
  refine qa ?_
  refine sn ?_
  refine K.seq ?_
  refine sr ?_
  refine qm ?_
  refine sn ?_
  refine K.cond rfl (fun ht11 => ?_) (fun ht11 => ?_)
  · try replace ht11 := of_decide_eq_true ht11
    cases ht11
  try replace ht11 := of_decide_eq_false ht11
  refine K.skip ?_
  refine K.norm_then ?_
  refine K.seq ?_
  refine sr ?_
  refine qm ?_
  refine sn ?_
  refine K.cond rfl (fun ht13 => ?_) (fun ht13 => ?_)
  · try replace ht13 := of_decide_eq_true ht13
    cases ht13
  try replace ht13 := of_decide_eq_false ht13
  refine K.skip ?_
  refine K.norm_then ?_
  refine K.seq ?_
  refine sr ?_
  iterate 2 refine qm ?_
  refine qp (K.lss rfl rfl) ?_
  refine sn ?_
  refine K.cond rfl (fun ht16 => ?_) (fun ht16 => ?_)
  · try replace ht16 := of_decide_eq_true ht16
    refine sr ?_
    refine qa ?_
    refine sn ?_
    refine K.ret ?_
    refine K.ret_then ?_
    refine K.end_ret (fun w _ => K.res_tmp rfl w) ?_
    exact K.gives_i rfl (by unfold cmpS; rw [if_pos ht16])
  try replace ht16 := of_decide_eq_false ht16
  refine K.skip ?_
  refine K.norm_then ?_
  refine K.seq ?_
  refine sr ?_
  iterate 2 refine qm ?_
  refine qp (K.gtr rfl rfl) ?_
  refine sn ?_
  refine K.cond rfl (fun ht19 => ?_) (fun ht19 => ?_)
  · try replace ht19 := of_decide_eq_true ht19
    refine sr ?_
    refine qa ?_
    refine sn ?_
    refine K.ret ?_
    refine K.ret_then ?_
    refine K.end_ret (fun w _ => K.res_tmp rfl w) ?_
    exact K.gives_i rfl (by unfold cmpS; rw [if_neg ht16, if_pos ht19])
  try replace ht19 := of_decide_eq_false ht19
  refine K.skip ?_
  refine K.norm_then ?_
  refine sr ?_
  refine qa ?_
  refine sn ?_
  refine K.ret ?_
  refine K.end_ret (fun w _ => K.res_tmp rfl w) ?_
  exact K.gives_i rfl (by unfold cmpS; rw [if_neg ht16, if_neg ht19])

set_option maxRecDepth 100000 in
theorem c64 {A B : Option Addr} {c d : Nat} {xs ys : List Int} {w : World} (hX : K.Rd w A 1 K.eI xs) (hY : K.Rd w B 1 K.eI ys) (hn : xs.length ≤ 4611686018427387904) (hm : ys.length ≤ 4611686018427387904) :
    Calls Tryz.prog 63 [.slice A xs.length c, .slice B ys.length d].toArray w (K.Gives (.int .i64 (cmpL xs ys)) w) := by
  refine K.enter (args := [.slice A xs.length c, .slice B ys.length d]) Tryz.func63 rfl (n := 34) rfl ?_
  simp only [List.replicate, List.cons_append, List.nil_append]
  refine sr ?_
  refine qa ?_
  refine sn ?_
  refine K.seq ?_
  refine sr ?_
  refine qm ?_
  refine qp (K.len_sl sl_28 rfl) ?_
  refine qm ?_
  refine sn ?_
  refine K.block ?_
  refine K.loopW [11] [4, 5, 6, 7, 8, 12, 13, 14, 15, 16, 17, 18, 19, 20, 21, 22, 23, 24, 25, 26, 27, 28, 29, 30] (fun vi L => ∃ k : Nat, vi = [.int .i64 (k : Int)] ∧ L = [] ∧ k ≤ xs.length ∧ k ≤ ys.length ∧ ∀ j, j < k → xs.getD j default = ys.getD j default) (fun vi => xs.length - (intOf (K.nth vi 0)).toNat) ?_ ?_
  · exact ⟨0, rfl, rfl, Nat.zero_le _, Nat.zero_le _, fun j hj => absurd hj (Nat.not_lt_zero j)⟩
  intro vi vr L hJ
  obtain ⟨k, rfl, rfl, hkn, hkm, hall⟩ := hJ
  try dsimp only [setd, setn, ev, nth, over, cl, eI, eP, eT, eR, setM, setF, List.map, List.append, List.drop, List.take]
  refine sr ?_
  refine qp (K.lss rfl rfl) ?_
  refine sn ?_
  refine K.seq ?_
  refine K.cond rfl (fun ht12 => ?_) (fun ht12 => ?_)
  · try replace ht12 := of_decide_eq_true ht12
    have hk : k < xs.length := by omega
    refine K.skip ?_
    refine K.norm_then ?_
    refine K.seq ?_
    refine K.block ?_
    refine sr ?_
    refine qm ?_
    refine K.seq_ix (M := []) _ hX.sl sl_28 rfl rfl rfl (by omega) rfl ?_
    intro p14 hp14
    refine zN ?_
    refine K.seq_sil (K.load1 one_3 rfl (hp14.any)) rfl ?_
    refine zN ?_
    iterate 2 refine qa ?_
    refine sn ?_
    refine K.seq ?_
    refine sr ?_
    iterate 2 refine qm ?_
    refine qp (K.len_sl sl_28 rfl) ?_
    refine qp (K.geq rfl rfl) ?_
    refine sn ?_
    refine K.cond rfl (fun ht19 => ?_) (fun ht19 => ?_)
    · try replace ht19 := of_decide_eq_true ht19
      refine sr ?_
      refine qa ?_
      refine sn ?_
      refine K.ret ?_
      refine K.ret_then ?_
      refine K.ret_block ?_
      refine K.ret_then ?_
      refine K.ret_then ?_
      refine K.ret_block ?_
      refine K.ret_then ?_
      refine K.end_ret (fun w _ => K.res_tmp rfl w) ?_
      exact K.gives_i rfl (cmpL_long hall hk (by omega)).symm
    try replace ht19 := of_decide_eq_false ht19
    have hk2 : k < ys.length := by omega
    refine K.skip ?_
    refine K.norm_then ?_
    refine sr ?_
    iterate 2 refine qm ?_
    refine K.seq_ix (M := []) _ hY.sl sl_28 rfl rfl rfl (by omega) rfl ?_
    intro p22 hp22
    refine zN ?_
    refine K.seq_sil (K.load1 one_3 rfl (hp22.any)) rfl ?_
    refine zN ?_
    refine qa ?_
    refine sn ?_
    refine sr ?_
    iterate 2 refine qm ?_
    refine K.seq_call (K.call_g cal_94 (fun F w hF hw => c88 w)) rfl ?_
    refine zN ?_
    refine qa ?_
    refine sn ?_
    refine sr ?_
    refine qm ?_
    refine qp (K.neq rfl rfl) ?_
    refine sn ?_
    refine K.cond rfl (fun ht28 => ?_) (fun ht28 => ?_)
    · try replace ht28 := of_decide_eq_true ht28
      refine sr ?_
      refine qm ?_
      refine qa ?_
      refine sn ?_
      refine K.ret ?_
      refine K.ret_block ?_
      refine K.ret_then ?_
      refine K.ret_then ?_
      refine K.ret_block ?_
      refine K.ret_then ?_
      refine K.end_ret (fun w _ => K.res_tmp rfl w) ?_
      exact K.gives_i rfl (cmpL_diff hall hk hk2 (by omega)).symm
    try replace ht28 := of_decide_eq_false ht28
    refine K.skip ?_
    refine K.norm_block ?_
    refine K.norm_then ?_
    refine K.region_lit ?_
    refine qp (K.add_i64 rfl rfl (by omega)) ?_
    refine qm ?_
    refine K.seq_nil ?_
    exact K.round_endW [.int .i64 ((k : Int) + 1)] ⟨k + 1, rfl, rfl, by omega, by omega, K.lt_succ_case hall (cmp0 (by omega))⟩ (by simp [K.nth, intOf]; omega) (List.Sublist.refl _) (by kernel_rfl)
  try replace ht12 := of_decide_eq_false ht12
  refine K.exit ?_
  refine K.exit_then ?_
  refine K.exit_then ?_
  refine K.exit_here ?_
  refine K.norm_then ?_
  refine K.seq ?_
  refine sr ?_
  refine qm ?_
  refine qp (K.len_sl sl_28 rfl) ?_
  refine qm ?_
  refine qp (K.len_sl sl_28 rfl) ?_
  refine qp (K.lss rfl rfl) ?_
  refine sn ?_
  refine K.cond rfl (fun ht35 => ?_) (fun ht35 => ?_)
  · try replace ht35 := of_decide_eq_true ht35
    refine sr ?_
    refine qa ?_
    refine sn ?_
    refine K.ret ?_
    refine K.ret_then ?_
    refine K.end_ret (fun w _ => K.res_tmp rfl w) ?_
    exact K.gives_i rfl (cmpL_short hall (by omega) (by omega)).symm
  try replace ht35 := of_decide_eq_false ht35
  refine K.skip ?_
  refine K.norm_then ?_
  refine sr ?_
  refine qa ?_
  refine sn ?_
  refine K.ret ?_
  refine K.end_ret (fun w _ => K.res_tmp rfl w) ?_
  exact K.gives_i rfl (cmpL_same hall (by omega) (by omega)).symm

set_option maxRecDepth 100000 in
theorem c18 {A B : Option Addr} {c d : Nat} {xs ys : List Int} {w : World} (hX : K.Rd w A 1 K.eI xs) (hY : K.Rd w B 1 K.eI ys) (hn : xs.length ≤ 1000000) (hm : ys.length ≤ 1000000) :
    Calls Tryz.prog 28 [.slice A xs.length c, .slice B ys.length d].toArray w (K.Gives (.bool (decide (xs = ys))) w) := by
  refine K.enter (args := [.slice A xs.length c, .slice B ys.length d]) Tryz.func28 rfl (n := 24) rfl ?_
  simp only [List.replicate, List.cons_append, List.nil_append]
  refine sr ?_
  refine qa ?_
  refine sn ?_
  refine K.seq ?_
  refine sr ?_
  refine qm ?_
  refine qp (K.len_sl sl_28 rfl) ?_
  refine qm ?_
  refine qp (K.len_sl sl_28 rfl) ?_
  refine qp (K.neq rfl rfl) ?_
  refine sn ?_
  refine K.cond rfl (fun ht10 => ?_) (fun ht10 => ?_)
  · try replace ht10 := of_decide_eq_true ht10
    refine sr ?_
    refine qa ?_
    refine sn ?_
    refine K.ret ?_
    refine K.ret_then ?_
    refine K.end_ret (fun w _ => K.res_tmp rfl w) ?_
    exact K.gives_b rfl (by rw [eq_comm, decide_eq_false_iff_not]; intro h; subst h; omega)
  try replace ht10 := of_decide_eq_false ht10
  have hlen : xs.length = ys.length := by omega
  refine K.skip ?_
  refine K.norm_then ?_
  refine K.seq ?_
  refine sr ?_
  refine qa ?_
  refine sn ?_
  refine K.block ?_
  refine K.loopW [5] [4, 11, 12, 13, 14, 15, 16, 17, 18, 19, 20, 21, 22, 23, 24, 25] (fun vi L => ∃ k : Nat, vi = [.int .i64 (k : Int)] ∧ L = [] ∧ k ≤ xs.length ∧ ∀ j, j < k → xs.getD j default = ys.getD j default) (fun vi => xs.length - (intOf (K.nth vi 0)).toNat) ?_ ?_
  · exact ⟨0, rfl, rfl, Nat.zero_le _, fun j hj => absurd hj (Nat.not_lt_zero j)⟩
  intro vi vr L hJ
  obtain ⟨k, rfl, rfl, hkn, hall⟩ := hJ
  try dsimp only [setd, setn, ev, nth, over, cl, eI, eP, eT, eR, setM, setF, List.map, List.append, List.drop, List.take]
  refine K.seq ?_
  refine sr ?_
  iterate 2 refine qm ?_
  refine qp (K.len_sl sl_28 rfl) ?_
  refine qp (K.lss rfl rfl) ?_
  refine sn ?_
  refine K.cond rfl (fun ht14 => ?_) (fun ht14 => ?_)
  · try replace ht14 := of_decide_eq_true ht14
    have hk : k < xs.length := by omega
    refine K.skip ?_
    refine K.norm_then ?_
    refine K.seq ?_
    refine K.block ?_
    refine K.seq ?_
    refine K.draw_L [] Tryz_mixed ?_
    refine K.d_pure 0 rfl (K.move) (by kernel_rfl) rfl ?_
    refine zn ?_
    refine K.d_pure 1 rfl (K.move) (by kernel_rfl) rfl ?_
    refine zn ?_
    refine K.d_ix (M := []) 2 k rfl hX.sl sl_28 rfl rfl rfl (by omega) (by kernel_rfl) rfl ?_
    intro p19 hp19
    refine zN ?_
    refine K.d_mem 3 rfl (K.load1 one_3 rfl hp19.any) (fun _ h => h) (by kernel_rfl) (by kernel_rfl) rfl ?_
    refine zN ?_
    refine K.d_pure 4 rfl (K.move) (by kernel_rfl) rfl ?_
    refine zn ?_
    refine K.d_pure 5 rfl (K.move) (by kernel_rfl) rfl ?_
    refine zn ?_
    refine K.d_ix (M := []) 6 k rfl hY.sl sl_28 rfl rfl rfl (by omega) (by kernel_rfl) rfl ?_
    intro p23 hp23
    refine zN ?_
    refine K.d_mem 7 rfl (K.load1 one_3 rfl hp23.any) (fun _ h => h) (by kernel_rfl) (by kernel_rfl) rfl ?_
    refine zN ?_
    refine K.d_pure 8 rfl (K.neq rfl rfl) (by kernel_rfl) rfl ?_
    refine zn ?_
    refine K.d_done (by kernel_rfl) ?_
    refine K.norm_then ?_
    refine K.cond rfl (fun ht25 => ?_) (fun ht25 => ?_)
    · try replace ht25 := of_decide_eq_true ht25
      refine sr ?_
      refine qa ?_
      refine sn ?_
      refine K.ret ?_
      refine K.ret_block ?_
      refine K.ret_then ?_
      refine K.ret_then ?_
      refine K.ret_block ?_
      refine K.ret_then ?_
      refine K.end_ret (fun w _ => K.res_tmp rfl w) ?_
      exact K.gives_b rfl (by rw [eq_comm, decide_eq_false_iff_not]; intro h; rw [h] at ht25; exact ht25 rfl)
    try replace ht25 := of_decide_eq_false ht25
    refine K.skip ?_
    refine K.norm_block ?_
    refine K.norm_then ?_
    refine K.region_lit ?_
    refine qm ?_
    refine qp (K.add_i64 rfl rfl (by omega)) ?_
    refine qa ?_
    refine K.seq_nil ?_
    exact K.round_endW [.int .i64 ((k : Int) + 1)] ⟨k + 1, rfl, rfl, by omega, K.lt_succ_case hall (Decidable.not_not.1 ht25)⟩ (by simp [K.nth, intOf]; omega) (List.Sublist.refl _) (by kernel_rfl)
  try replace ht14 := of_decide_eq_false ht14
  refine K.exit ?_
  refine K.exit_then ?_
  refine K.exit_then ?_
  refine K.exit_here ?_
  refine K.norm_then ?_
  refine sr ?_
  refine qa ?_
  refine sn ?_
  refine K.ret ?_
  refine K.end_ret (fun w _ => K.res_tmp rfl w) ?_
  exact K.gives_b rfl (by rw [eq_comm, decide_eq_true_iff]; exact list_ext hlen (fun j hj => hall j (by omega)))

set_option maxRecDepth 100000 in
theorem c67 {Q : Option Addr} {q : Nat} {xs : List Int} {w : World} (hL : K.Rd w Q 1 K.eI xs) (hx : xs.length ≤ 1000000) :
    Calls Tryz.prog 46 [.slice Q xs.length q].toArray w (K.RetS 3 1 K.eI xs w) := by
  refine K.enter (args := [.slice Q xs.length q]) Tryz.func46 rfl (n := 7) rfl ?_
  simp only [List.replicate, List.cons_append, List.nil_append]
  refine sr ?_
  refine qa ?_
  refine sn ?_
  refine K.seq ?_
  refine sr ?_
  refine qm ?_
  refine qp (K.eql_slnil sl_28 rfl) ?_
  refine sn ?_
  refine K.cond rfl (fun ht4 => ?_) (fun ht4 => ?_)
  · try replace ht4 := of_decide_eq_true ht4
    refine sr ?_
    refine qa ?_
    refine sn ?_
    refine K.ret ?_
    refine K.ret_then ?_
    refine K.end_ret (fun w _ => K.res_tmp rfl w) ?_
    have hx0 : xs = [] := by
      cases Q with
      | none => exact hL.isNil
      | some a => cases ht4
    exact K.rets_s0 hx0 rfl
  try replace ht4 := of_decide_eq_false ht4
  refine K.skip ?_
  refine K.norm_then ?_
  refine sr ?_
  refine K.seq_new (K.buildSlice (bs0)) rfl ?_
  intro b5
  refine zN ?_
  refine qm ?_
  refine K.blk_row0 (size := 1) ?_
  refine K.seq_upd (K.appendS el_28 rfl rfl hL.sl (fun _ => rfl) (K.oneI _) (by omega) (by omega) (fun _ _ => K.rp0)) rfl ?_
  rintro ⟨A7, c7⟩ _
  refine zN ?_
  refine qa ?_
  refine sn ?_
  refine K.ret ?_
  refine K.end_ret (fun w _ => K.res_tmp rfl w) ?_
  exact K.rets_s K.m0 (by rw [Nat.zero_add]) (by rw [List.nil_append]) (by rw [Nat.zero_add]; rfl)

end Go.Proofs.YtekkpcpbnonkaaaGreatDoor.Rv
end
section
set_option linter.unusedSimpArgs false
set_option linter.unusedVariables false
namespace Go.Proofs.YtekkpcpbnonkaaaGreatDoor.Rv
open Go.ChangeShapes Go.WideShapes Go.ChangeAt Go.RowKit
theorem own0 : ownKnob Tryz.prog.godebug = none := by kernel_rfl
theorem laidOut0 : laidOutB Tryz.prog = true := by kernel_rfl
abbrev LAID : List (String × DataW Unit) := [("math/bits.deBruijn32tab", Rows.laid_math_bits_deBruijn32tab), ("math/bits.deBruijn64tab", Rows.laid_math_bits_deBruijn64tab)]
theorem laid64 : (Rows.laid_math_bits_deBruijn64tab : DataW Unit) = .agg (tabZ.map fun n => .lit (.int .u8 n)) := rfl
set_option maxRecDepth 100000 in
theorem tab_of {W : World} (h : laidMetH Tryz.prog LAID W) : Tab W := by
  rw [MakeChecks.laidMetH_plain _ _ _ (by kernel_rfl)] at h
  obtain ⟨ps, ⟨g0, t0, cs0, f0, p0, q0, hg0, ht0, hv0, hd0, ⟨g1, t1, cs1, f1, p1, q1, hg1, ht1, hv1, hd1, _, _⟩, _⟩, _, _⟩ := h
  obtain rfl := Option.some.inj ((show Tryz.prog.globalNamed "math/bits.deBruijn64tab" = some 1 by kernel_rfl).symm.trans hg1)
  have ht2 : (Tryz.prog.globals[1]?).map (·.type) = some 172 := by kernel_rfl
  obtain rfl := Option.some.inj (ht2.symm.trans ht1)
  obtain ⟨xs, m, hls, ex, hbk, hl, hel⟩ := DataW.trod_array Tryz.underlying172 hd1
  have c5 : Tryz.prog.cellsOf 5 = 1 := by kernel_rfl
  have hcell : ∀ r, r < 64 → W.cell? ⟨1, r, none⟩ = some (.int .u8 (tabZ.getD r 0)) := by
    intro r hr
    have hE := hel r hr
    rw [c5, Nat.mul_one, List.getElem?_eq_getElem (by omega)] at hE
    obtain ⟨z, e1, e2, _⟩ := DataW.trod_int Tryz.underlying5 hE
    have hlen : tabZ.length = 64 := by kernel_rfl
    rw [laid64] at ex
    have e3 : (xs.map (·.1)) = tabZ.map fun n => .lit (.int .u8 n) := (DataW.agg.inj (Prod.mk.inj ex).1).symm
    have e4 : (xs.map (·.1))[r]? = (tabZ.map fun n => (DataW.lit (.int .u8 n) : DataW Unit))[r]? := by rw [e3]
    rw [List.getElem?_map, List.getElem?_map, List.getElem?_eq_getElem (by omega : r < xs.length), List.getElem?_eq_getElem (by omega : r < tabZ.length), e2] at e4
    have hz : z = tabZ.getD r 0 := by
      simp only [Option.map_some, Option.some.injEq, DataW.lit.injEq, Lit.int.injEq, true_and] at e4
      rw [e4, List.getD, List.getElem?_eq_getElem (by omega : r < tabZ.length)]; rfl
    rw [World.var?_cell hg1 hv1 r, ← hz]
    have : cs1.toList[r]? = some (.int .u8 z) := by
      have h0 : ((cs1.toList.drop r).take 1)[0]? = some (.int .u8 z) := by rw [e1]; rfl
      simpa using h0
    simpa using this
  have hb : 1 < W.heap.size := World.block_lt_of_cell? W _ (hcell 0 (by decide))
  refine ⟨hb, K.PtrL.old hb fun j u hu => ?_⟩
  have hj : j < 64 := by have := (List.getElem?_eq_some_iff.1 hu).1; rwa [show tab64.length = 64 by kernel_rfl] at this
  rw [show (⟨1, 0, none⟩ : Addr).add j = ⟨1, j, none⟩ by unfold Addr.add; split <;> simp_all, hcell j hj]
  unfold tab64 at hu
  rw [List.getElem?_map, List.getElem?_eq_getElem (by rw [show tabZ.length = 64 by kernel_rfl]; exact hj)] at hu
  rw [List.getD, List.getElem?_eq_getElem (by rw [show tabZ.length = 64 by kernel_rfl]; exact hj)]
  exact hu

end Go.Proofs.YtekkpcpbnonkaaaGreatDoor.Rv
namespace Go.Proofs.YtekkpcpbnonkaaaGreatDoor.Rv
open Go.ChangeShapes Go.WideShapes Go.Deep Go.RowKit Go.Joins
section
variable {H : Type} {enc : TypeId × Value → H} {P : Program} {w : World} {base : Nat} {spare : Nat → Bool} {held : Bool}
theorem open_slice_fields {t e : TypeId} {fs : Array Field} {fuel : Nat} {cs : List Value} {x : DataW H × List MemPlace} (ht : P.underlying t = some (.slice e)) (he : P.underlying e = some (.struct fs))
    (hone : oneCellFields P fs = true) (hC : P.cellsOf e = fs.size) (h : DataW.trod enc P w base spare held fuel t cs = some x) :
    (cs = [.slice none 0 0] ∧ x = (.nil, [])) ∨
    ∃ (a : Addr) (len cap m : Nat) (D : Nat → DataW H) (Pl : Nat → List MemPlace), cs = [.slice (some a) len cap] ∧ base ≤ a.block ∧ len ≤ cap ∧ cap ≤ maxLen ∧ m = (if spare a.block then cap else len) ∧
      x = (.slice ((List.range len).map D) ((List.range (m - len)).map fun j => D (len + j)), MemPlace.row a (m * fs.size) ++ (List.range m).flatMap Pl) ∧
      ∀ i, i < m → ∃ (ys : List (DataW H × List MemPlace)) (n : Nat), D i = .agg (ys.map (·.1)) ∧ Pl i = ys.flatMap (·.2) ∧ ys.length = fs.size ∧
        ∀ (j : Nat) (f : Field), fs[j]? = some f → ∃ (v : Value) (y : DataW H × List MemPlace), w.cell? (a.add (i * fs.size + j)) = some v ∧ ys[j]? = some y ∧ DataW.trod enc P w base spare held n f.type [v] = some y := by
  rcases open_slice ht h with h0 | ⟨a, len, cap, m, n, D, Pl, hcs, hb, hl, hm, hmm, hx, hi⟩
  · exact .inl h0
  · refine .inr ⟨a, len, cap, m, D, Pl, hcs, hb, hl, hm, hmm, by rw [hC] at hx; exact hx, fun i him => ?_⟩
    obtain ⟨cs', hc, ht'⟩ := hi i him
    rw [hC] at hc
    obtain ⟨ys, n', hn', hy, hlen, hyl, hf⟩ := DataW.trod_struct he ht'
    obtain ⟨_, hcl, hat⟩ := World.cells?_some hc
    simp only [Prod.mk.injEq] at hy
    refine ⟨ys, n', hy.1, hy.2, hyl, fun j f hj => ?_⟩
    obtain ⟨ho, hk⟩ := hone_of hone j f hj
    have hjl : j < fs.size := (Array.getElem?_eq_some_iff.1 hj).1
    have hcell := hat j hjl
    have hv : cs'[j]? = some (cs'[j]'(by omega)) := List.getElem?_eq_getElem (by omega)
    have h1 := hf j f hj
    rw [ho, hk] at h1
    have hone' : (cs'.drop j).take 1 = [cs'[j]'(by omega)] := by
      rw [List.drop_eq_getElem_cons (by omega)]
      rfl
    rw [hone'] at h1
    have hys : ys[j]? = some (ys[j]'(by omega)) := List.getElem?_eq_getElem (by omega)
    refine ⟨_, _, ?_, hys, h1.trans hys⟩
    rw [← Go.Deep.add_add, hcell, hv]
theorem list_of {E : Type} [Inhabited E] {Q : Nat → E → Prop} : ∀ {n : Nat}, (∀ i, i < n → ∃ x, Q i x) → ∃ xs : List E, xs.length = n ∧ ∀ i x, xs[i]? = some x → Q i x
  | 0, _ => ⟨[], rfl, fun i x h => by simp at h⟩
  | n + 1, h => by
    obtain ⟨xs, hl, hq⟩ := list_of (n := n) (Q := Q) (fun i hi => h i (by omega))
    obtain ⟨x, hx⟩ := h n (by omega)
    refine ⟨xs ++ [x], by simp [hl], fun i y hy => ?_⟩
    rw [List.getElem?_append] at hy
    split at hy
    · exact hq i y hy
    · rename_i h1
      have : i = n := by
        rcases Nat.lt_or_ge (i - xs.length) 1 with h2 | h2
        · omega
        · rw [List.getElem?_eq_none (by simpa using h2)] at hy; cases hy
      subst this
      rw [hl, Nat.sub_self] at hy
      simp at hy
      subst hy; exact hx
def SlD {E : Type} (w : World) (size : Nat) (e : E → List Value) (v : Value) (d : DataW H) (A : Option Addr) (c : Nat) (xs : List E) : Prop :=
  v = .slice A xs.length c ∧ K.Rd w A size e xs ∧ (d = .nil ∧ xs = [] ∨ ∃ el rest, d = .slice el rest ∧ el.length = xs.length)
theorem trod_one {t e : TypeId} {v : Value} {d : DataW H} {p : List MemPlace} {b0 : Nat} (ht : P.underlying t = some (.slice e)) (hv : Value.okWide P w .any b0 t v) (h : DataW.Trod enc P w base spare held t v d p) : ∃ fuel, DataW.trod enc P w base spare held fuel t [v] = some (d, p) := by
  obtain ⟨a, n, c, rfl⟩ := okWide_slice ht hv
  obtain ⟨fuel, hf⟩ := h
  exact ⟨fuel, by simpa [Value.cells] using hf⟩
theorem slice_points {t e : TypeId} {f0 f1 f2 f3 : Field} {fuel : Nat} {v : Value} {y : DataW H × List MemPlace} (ht : P.underlying t = some (.slice e)) (he : P.underlying e = some (.struct #[f0, f1, f2, f3])) (hone : oneCellFields P #[f0, f1, f2, f3] = true) (hC : P.cellsOf e = 4)
    (h0 : P.underlying f0.type = some .string) (h1 : P.underlying f1.type = some (.int .i64)) (h2 : P.underlying f2.type = some (.int .i64)) (h3 : P.underlying f3.type = some (.int .i64)) (h : DataW.trod enc P w base spare held fuel t [v] = some y) :
    ∃ A c xs, SlD w 4 eR v y.1 A c xs := by
  rcases open_slice_fields ht he hone hC h with ⟨hcs, hx⟩ | ⟨a, len, cap, m, D, Pl, hcs, _, hl, hm, hmm, hx, hi⟩
  · simp at hcs; subst hcs
    exact ⟨none, 0, [], rfl, K.Rd.nil, .inl ⟨by rw [hx], rfl⟩⟩
  · simp at hcs; subst hcs
    have hlm : len ≤ m := by rw [hmm]; split <;> omega
    obtain ⟨xs, hxl, hq⟩ := list_of (n := len) (Q := fun i (x : RvT) => w.cell? (a.add (i * 4)) = some (.string x.nm) ∧ w.cell? (a.add (i * 4 + 1)) = some (.int .i64 x.dn) ∧ w.cell? (a.add (i * 4 + 2)) = some (.int .i64 x.ls) ∧ w.cell? (a.add (i * 4 + 3)) = some (.int .i64 x.ht)) (fun i hil => by
      obtain ⟨ys, n, _, _, _, hf⟩ := hi i (by omega)
      obtain ⟨v0, y0, hc0, _, ht0⟩ := hf 0 f0 rfl
      obtain ⟨v1, y1, hc1, _, ht1⟩ := hf 1 f1 rfl
      obtain ⟨v2, y2, hc2, _, ht2⟩ := hf 2 f2 rfl
      obtain ⟨v3, y3, hc3, _, ht3⟩ := hf 3 f3 rfl
      obtain ⟨a0, e0, _, _⟩ := DataW.trod_string h0 ht0
      obtain ⟨a1, e1, _, _⟩ := DataW.trod_int h1 ht1
      obtain ⟨a2, e2, _, _⟩ := DataW.trod_int h2 ht2
      obtain ⟨a3, e3, _, _⟩ := DataW.trod_int h3 ht3
      simp at e0 e1 e2 e3; subst e0 e1 e2 e3
      exact ⟨⟨a0, a1, a2, a3⟩, hc0, hc1, hc2, hc3⟩)
    refine ⟨some a, cap, xs, by rw [hxl], fun k x hk => ?_, .inr ⟨_, _, by rw [hx], by simp [hxl]⟩⟩
    obtain ⟨q0, q1, q2, q3⟩ := hq k x hk
    refine ⟨a, rfl, ?_, fun j u hu => ?_⟩
    · have := World.block_lt_of_cell? w _ q0
      rwa [K.addr_block] at this
    · match j with
      | 0 => simp [eR] at hu; subst hu; rw [K.addr_add0]; exact q0
      | 1 => simp [eR] at hu; subst hu; rw [Go.Deep.add_add]; exact q1
      | 2 => simp [eR] at hu; subst hu; rw [Go.Deep.add_add]; exact q2
      | 3 => simp [eR] at hu; subst hu; rw [Go.Deep.add_add]; exact q3
      | j + 4 => simp [eR] at hu
end
section
variable {H : Type} {w : World} {n c : Nat} {v : Value} {d : DataW H} {A : Option Addr}
theorem sld_len {E : Type} {e : E → List Value} {xs : List E} {t et b : Nat} (h : SlD w n e v d A c xs) (ht : Tryz.prog.underlying t = some (.slice et)) (hb : Tryz.prog.bytesOf et = b) (h8 : 8 ≤ b) (hs : ∀ n ∈ d.weights Tryz.prog t, n ≤ reachBytes) : xs.length ≤ 17592186043904 := by
  rcases h.2.2 with ⟨_, rfl⟩ | ⟨el, rest, rfl, hl⟩
  · simp
  · have h1 := hs ((el.length + rest.length) * b) (by simp [DataW.weights, ht, hb])
    have h2 : (el.length + rest.length) * 8 ≤ (el.length + rest.length) * b := Nat.mul_le_mul_left _ h8
    have h3 : reachBytes ≤ 140737488351232 := by decide
    omega
end
section
variable {H : Type} {enc : TypeId × Value → H} {w : World} {base : Nat} {spare : Nat → Bool} {held : Bool}
set_option maxRecDepth 100000 in
theorem open_rivers {b0 : Nat} {v : Value} {d : DataW H} {p : List MemPlace} (hv : Value.okWide Tryz.prog w .any b0 22 v) (h : DataW.Trod enc Tryz.prog w base spare held 22 v d p) (hs : ∀ n ∈ d.weights Tryz.prog 22, n ≤ reachBytes) :
    ∃ (A : Option Addr) (c : Nat) (r : List RvT), v = .slice A r.length c ∧ K.Rd w A 4 eR r ∧ r.length ≤ 17592186043904 := by
  obtain ⟨fuel, hf⟩ := trod_one Tryz.underlying22 hv h
  obtain ⟨A, c, xs, s3⟩ := slice_points (v := v) Tryz.underlying22 Tryz.underlying34 (by kernel_rfl) (by kernel_rfl) Tryz.underlying9 Tryz.underlying3 Tryz.underlying3 Tryz.underlying3 hf
  have l3 := sld_len s3 Tryz.underlying22 (b := 40) (by kernel_rfl) (by omega) hs
  obtain ⟨rfl, r3, _⟩ := s3
  exact ⟨A, c, xs, rfl, r3, l3⟩
end
section
variable {H : Type} {enc : TypeId × Value → H} {P : Program} {w : World} {base : Nat} {spare : Nat → Bool} {held : Bool}
theorem open_bytes {b0 n t e : Nat} {v : Value} {d : DataW H} {p : List MemPlace} (ht : P.underlying t = some (.array n e)) (he : P.underlying e = some (.int .u8)) (hc : P.cellsOf t = n) (h1 : P.cellsOf e = 1) (hv : Value.okWide P w .any b0 t v) (h : DataW.Trod enc P w base spare held t v d p) :
    ∃ xs : List Int, xs.length = n ∧ v = .agg (xs.map (Value.int .u8)).toArray ∧ ∀ x ∈ xs, 0 ≤ x ∧ x ≤ 255 := by
  simp only [Value.okWide, ht] at hv
  obtain ⟨cs, rfl, hsz, _⟩ := hv
  obtain ⟨fuel, hf⟩ := h
  obtain ⟨ys, m, _, _, hl, hyl, hi⟩ := DataW.trod_array ht hf
  have hcl : cs.toList.length = n := by simpa [hc] using hsz
  obtain ⟨xs, hxl, hq⟩ := list_of (n := n) (Q := fun i (x : Int) => cs.toList[i]? = some (.int .u8 x) ∧ 0 ≤ x ∧ x ≤ 255) (fun i hil => by
    have h2 := hi i hil
    rw [h1, Nat.mul_one] at h2
    have h3 : ((Value.agg cs).cells.toList.drop i).take 1 = [cs.toList[i]'(by omega)] := by
      show (cs.toList.drop i).take 1 = _
      rw [List.drop_eq_getElem_cons (by omega)]; rfl
    rw [h3, List.getElem?_eq_getElem (by omega)] at h2
    obtain ⟨a, ea, _, wa⟩ := DataW.trod_int he h2
    simp at ea
    exact ⟨a, by rw [List.getElem?_eq_getElem (by omega)]; simpa using ea, bounds_u8 wa⟩)
  refine ⟨xs, hxl, ?_, fun x hx => ?_⟩
  · congr 1
    apply Array.ext'
    apply List.ext_getElem?
    intro i
    rcases Nat.lt_or_ge i n with h4 | h4
    · have h5 : xs[i]? = some (xs[i]'(by omega)) := List.getElem?_eq_getElem (by omega)
      rw [(hq i _ h5).1, List.getElem?_map, h5]; rfl
    · rw [List.getElem?_eq_none (by omega), List.getElem?_eq_none (by simp; omega)]
  · obtain ⟨i, hi2, rfl⟩ := List.getElem_of_mem hx
    exact (hq i _ (List.getElem?_eq_getElem hi2)).2
end
section
variable {H : Type} {enc : TypeId × Value → H} {w : World} {base : Nat} {spare : Nat → Bool} {held : Bool}
set_option maxRecDepth 100000 in
theorem open_u2 {b0 : Nat} {v : Value} {d : DataW H} {p : List MemPlace} (hv : Value.okWide Tryz.prog w .any b0 23 v) (h : DataW.Trod enc Tryz.prog w base spare held 23 v d p) : ∃ x0 x1 : Int, v = .agg #[.int .u8 x0, .int .u8 x1] ∧ (0 ≤ x0 ∧ x0 ≤ 255) ∧ (0 ≤ x1 ∧ x1 ≤ 255) := by
  obtain ⟨xs, hl, rfl, hx⟩ := open_bytes Tryz.underlying23 Tryz.underlying5 (by kernel_rfl) (by kernel_rfl) hv h
  match xs, hl with
  | [x0, x1], _ => exact ⟨x0, x1, rfl, hx _ (by simp), hx _ (by simp)⟩
end
end Go.Proofs.YtekkpcpbnonkaaaGreatDoor.Rv
end
section
set_option linter.unusedSimpArgs false
set_option linter.unusedVariables false
namespace Go.Proofs.YtekkpcpbnonkaaaGreatDoor.Sc
open Go
def outB (lo hi : Int) (xs : List Int) : Bool := xs.any fun n => decide (n < lo) || decide (n > hi)
def cm (a b : Int) : Bool := (List.range 29).any fun i => decide (a % ((i : Int) + 2) = 0) && decide (b % ((i : Int) + 2) = 0)
def scE (u d : Int) : Int := if 1 ≤ u ∧ u ≤ 30 ∧ 1 ≤ d ∧ d ≤ 30 then (if cm u d then 6 else 0) else 7
theorem cm_true {a b n : Int} (h2 : 2 ≤ n) (h30 : n ≤ 30) (ha : a % n = 0) (hb : b % n = 0) : cm a b = true := by
  refine List.any_eq_true.2 ⟨(n - 2).toNat, List.mem_range.2 (by omega), ?_⟩
  have e : (((n - 2).toNat : Nat) : Int) + 2 = n := by omega
  simp only [e, ha, hb, decide_true, Bool.and_self]
theorem cm_false {a b : Int} (h : ∀ n : Int, 2 ≤ n → n ≤ 30 → ¬ (a % n = 0 ∧ b % n = 0)) : cm a b = false := by
  unfold cm
  rw [List.any_eq_false]
  intro i hi
  have := h ((i : Int) + 2) (by omega) (by have := List.mem_range.1 hi; omega)
  simpa using this
def cutS (kind h a b : Int) : Int := h * a / b + (if kind = 3 ∧ 0 < h * a % b ∨ kind = 2 ∧ b ≤ 2 * (h * a % b) then 1 else 0)
def rndS (kind n b : Int) : Int := if kind = 1 then n / b else if kind = 2 then (2 * n + b) / (2 * b) else (n + b - 1) / b
theorem ediv_of {n d q r : Int} (hd : 0 < d) (h : n = d * q + r) (h0 : 0 ≤ r) (h1 : r < d) : n / d = q := by
  rw [h, Int.mul_comm, Int.add_comm, Int.add_mul_ediv_right _ _ (by omega), Int.ediv_eq_zero_of_lt h0 h1]; omega
theorem rnd_cut {kind h a b : Int} (hk : 1 ≤ kind ∧ kind ≤ 3) (hb : 1 ≤ b) : rndS kind (h * a) b = cutS kind h a b := by
  unfold rndS cutS
  generalize h * a = n
  have hd := Int.mul_ediv_add_emod n b
  have h0 := Int.emod_nonneg n (show b ≠ 0 by omega)
  have h1 := Int.emod_lt_of_pos n (show 0 < b by omega)
  generalize n / b = q at *
  generalize n % b = r at *
  have hn : n = b * q + r := hd.symm
  have e1 : 2 * b * q = 2 * (b * q) := by rw [Int.mul_assoc]
  have e2 : 2 * b * (q + 1) = 2 * (b * q) + 2 * b := by rw [Int.mul_add, Int.mul_one, e1]
  have e3 : b * (q + 1) = b * q + b := by rw [Int.mul_add, Int.mul_one]
  rcases (show kind = 1 ∨ kind = 2 ∨ kind = 3 by omega) with hk1 | hk1 | hk1
  · rw [if_pos hk1, if_neg (by omega), Int.add_zero]
  · rw [if_neg (by omega), if_pos hk1]
    by_cases hc : b ≤ 2 * r
    · rw [if_pos (by omega)]; exact ediv_of (r := 2 * r - b) (by omega) (by omega) (by omega) (by omega)
    · rw [if_neg (by omega), Int.add_zero]; exact ediv_of (r := 2 * r + b) (by omega) (by omega) (by omega) (by omega)
  · rw [if_neg (by omega), if_neg (by omega)]
    by_cases hc : 0 < r
    · rw [if_pos (by omega)]; exact ediv_of (r := r - 1) (by omega) (by omega) (by omega) (by omega)
    · rw [if_neg (by omega), Int.add_zero]; exact ediv_of (r := b - 1) (by omega) (by omega) (by omega) (by omega)
def hE (base h : Int) : Int := if base ≤ h ∧ h ≤ 9000 then 0 else 7
def roadE (n : Int) (r : Int × Int) : Int := if (0 ≤ r.1 ∧ r.1 ≤ n - 1) ∧ (0 ≤ r.2 ∧ r.2 ≤ n - 1) then (if r.1 = r.2 then 2 else 0) else 4
def chk (kind base most : Int) (hs : List Int) (rs : List (Int × Int)) : Int × Int × Int :=
  if ¬ (1 ≤ kind ∧ kind ≤ 3) then (1, 0, 2)
  else if ¬ ((0 ≤ base ∧ base ≤ 9000) ∧ (0 ≤ most ∧ most ≤ 100000)) then (1, 0, 7)
  else if ¬ (1 ≤ hs.length ∧ hs.length ≤ 8) ∨ rs.length > 8 then (1, 0, 3)
  else if (K.fst (hE base) hs).2 ≠ 0 then (2, K.fst (hE base) hs)
  else if (K.fst (roadE hs.length) rs).2 ≠ 0 then (3, K.fst (roadE hs.length) rs)
  else (0, 0, 0)
section
variable {kind base most : Int} {hs : List Int} {rs : List (Int × Int)}
theorem chk_1 (h : ¬ (1 ≤ kind ∧ kind ≤ 3)) : chk kind base most hs rs = (1, 0, 2) := by unfold chk; rw [if_pos h]
theorem chk_2 (h1 : 1 ≤ kind ∧ kind ≤ 3) (h : ¬ ((0 ≤ base ∧ base ≤ 9000) ∧ (0 ≤ most ∧ most ≤ 100000))) : chk kind base most hs rs = (1, 0, 7) := by unfold chk; rw [if_neg (by omega), if_pos h]
theorem chk_3 (h1 : 1 ≤ kind ∧ kind ≤ 3) (h2 : (0 ≤ base ∧ base ≤ 9000) ∧ (0 ≤ most ∧ most ≤ 100000)) (h : ¬ (1 ≤ hs.length ∧ hs.length ≤ 8) ∨ rs.length > 8) : chk kind base most hs rs = (1, 0, 3) := by
  unfold chk; rw [if_neg (by omega), if_neg (by omega), if_pos h]
theorem chk_4 (h1 : 1 ≤ kind ∧ kind ≤ 3) (h2 : (0 ≤ base ∧ base ≤ 9000) ∧ (0 ≤ most ∧ most ≤ 100000)) (h3 : (1 ≤ hs.length ∧ hs.length ≤ 8) ∧ rs.length ≤ 8) (h : (K.fst (hE base) hs).2 ≠ 0) : chk kind base most hs rs = (2, K.fst (hE base) hs) := by
  unfold chk; rw [if_neg (by omega), if_neg (by omega), if_neg (by omega), if_pos h]
theorem chk_5 (h1 : 1 ≤ kind ∧ kind ≤ 3) (h2 : (0 ≤ base ∧ base ≤ 9000) ∧ (0 ≤ most ∧ most ≤ 100000)) (h3 : (1 ≤ hs.length ∧ hs.length ≤ 8) ∧ rs.length ≤ 8) (h4 : (K.fst (hE base) hs).2 = 0) (h : (K.fst (roadE hs.length) rs).2 ≠ 0) : chk kind base most hs rs = (3, K.fst (roadE hs.length) rs) := by
  unfold chk; rw [if_neg (by omega), if_neg (by omega), if_neg (by omega), if_neg (by omega), if_pos h]
theorem chk_0 (h1 : 1 ≤ kind ∧ kind ≤ 3) (h2 : (0 ≤ base ∧ base ≤ 9000) ∧ (0 ≤ most ∧ most ≤ 100000)) (h3 : (1 ≤ hs.length ∧ hs.length ≤ 8) ∧ rs.length ≤ 8) (h4 : (K.fst (hE base) hs).2 = 0) (h : (K.fst (roadE hs.length) rs).2 = 0) : chk kind base most hs rs = (0, 0, 0) := by
  unfold chk; rw [if_neg (by omega), if_neg (by omega), if_neg (by omega), if_neg (by omega), if_neg (by omega)]
end
theorem emod_big {a n : Int} (h1 : 1 ≤ a) (h : a < n) : a % n ≠ 0 := by rw [Int.emod_eq_of_lt (by omega) h]; omega
theorem dvs_found {a b : Int} {k : Nat} (h1 : 1 ≤ a) (h2 : a ≤ 30) (hk : (k : Int) < a) (hall : ∀ j : Nat, j < k → ¬ (a % (a - j) = 0 ∧ b % (a - j) = 0)) (ha : a % (a - k) = 0) (hb : b % (a - k) = 0) : decide (a - (k : Int) > 1) = cm a b := by
  by_cases hd : a - (k : Int) > 1
  · rw [cm_true (by omega) (by omega) ha hb]; simpa using hd
  · rw [cm_false]
    · simpa using hd
    · intro n hn _ ⟨h3, h4⟩
      rcases Int.lt_or_le a n with h5 | h5
      · exact emod_big h1 h5 h3
      · have e : n = a - (((a - n).toNat : Nat) : Int) := by omega
        rw [e] at h3 h4
        exact hall (a - n).toNat (by omega) ⟨h3, h4⟩
theorem dvs_none {a b : Int} (h1 : 1 ≤ a) (_h2 : a ≤ 30) (hall : ∀ j : Nat, (j : Int) < a → ¬ (a % (a - j) = 0 ∧ b % (a - j) = 0)) : decide ((1 : Int) > 1) = cm a b := by
  exfalso
  refine hall (a - 1).toNat (by omega) ?_
  have e : a - (((a - 1).toNat : Nat) : Int) = 1 := by omega
  rw [e]; omega
end Go.Proofs.YtekkpcpbnonkaaaGreatDoor.Sc

namespace Go.Proofs.YtekkpcpbnonkaaaGreatDoor.Sc
open Go
structure Good (kind base most : Int) (hs : List Int) (rs : List (Int × Int)) : Prop where
  k : 1 ≤ kind ∧ kind ≤ 3
  b : 0 ≤ base ∧ base ≤ 9000
  m : 0 ≤ most ∧ most ≤ 100000
  n : 1 ≤ hs.length ∧ hs.length ≤ 8
  r : rs.length ≤ 8
  h : ∀ h ∈ hs, base ≤ h ∧ h ≤ 9000
  rd : ∀ r ∈ rs, 0 ≤ r.1 ∧ r.1 < hs.length ∧ 0 ≤ r.2 ∧ r.2 < hs.length ∧ r.1 ≠ r.2
theorem fst_zero {E : Type} {q : E → Int} {xs : List E} : (K.fst q xs).2 = 0 ↔ ∀ x ∈ xs, q x = 0 := by
  unfold K.fst
  cases h : xs.findIdx? (fun x => q x != 0) with
  | none =>
    have h' := List.findIdx?_eq_none_iff.1 h
    simp only [true_iff]
    intro x hx; simpa using h' x hx
  | some i =>
    obtain ⟨hi, hp, _⟩ := List.findIdx?_eq_some_iff_getElem.1 h
    have hp' : q xs[i] ≠ 0 := by simpa using hp
    simp only [List.getElem?_eq_getElem hi]
    exact ⟨fun h0 => absurd h0 hp', fun ha => absurd (ha _ (List.getElem_mem hi)) hp'⟩
section
variable {kind base most : Int} {hs : List Int} {rs : List (Int × Int)}
theorem hE_eq {h : Int} : hE base h = 0 ↔ base ≤ h ∧ h ≤ 9000 := by unfold hE; split <;> simp_all
theorem roadE_eq {n : Int} {r : Int × Int} : roadE n r = 0 ↔ 0 ≤ r.1 ∧ r.1 < n ∧ 0 ≤ r.2 ∧ r.2 < n ∧ r.1 ≠ r.2 := by
  unfold roadE
  split
  · split
    · constructor
      · intro h; omega
      · intro h; omega
    · constructor
      · intro _; omega
      · intro _; rfl
  · constructor
    · intro h; omega
    · intro h; omega
theorem chk_good (h : (chk kind base most hs rs).2.2 = 0) : Good kind base most hs rs := by
  unfold chk at h
  split at h
  · exact absurd h (by decide)
  split at h
  · exact absurd h (by decide)
  split at h
  · exact absurd h (by decide)
  split at h
  · rename_i h4; exact absurd h h4
  split at h
  · rename_i h5; exact absurd h h5
  rename_i h1 h2 h3 h4 h5
  have h4' := fst_zero.1 (Decidable.not_not.1 h4)
  have h5' := fst_zero.1 (Decidable.not_not.1 h5)
  exact ⟨by omega, by omega, by omega, by omega, by omega, fun x hx => hE_eq.1 (h4' x hx), fun x hx => roadE_eq.1 (h5' x hx)⟩
theorem Good.chk (g : Good kind base most hs rs) : chk kind base most hs rs = (0, 0, 0) := by
  have h1 := g.k; have h2 := g.b; have h3 := g.m; have h4 := g.n; have h5 := g.r
  refine chk_0 h1 ⟨h2, h3⟩ ⟨h4, h5⟩ (fst_zero.2 fun x hx => hE_eq.2 (g.h x hx)) (fst_zero.2 fun x hx => roadE_eq.2 (g.rd x hx))
theorem Good.at (g : Good kind base most hs rs) {i : Nat} (h : i < hs.length) : base ≤ hs.getD i default ∧ hs.getD i default ≤ 9000 := g.h _ (K.gt_mem h)
theorem Good.road (g : Good kind base most hs rs) {i : Nat} (h : i < rs.length) : 0 ≤ (rs.getD i default).1 ∧ (rs.getD i default).1 < hs.length ∧ 0 ≤ (rs.getD i default).2 ∧ (rs.getD i default).2 < hs.length ∧ (rs.getD i default).1 ≠ (rs.getD i default).2 := g.rd _ (K.gt_mem h)
end
theorem scE_ok {u d : Int} (h : scE u d = 0) : 1 ≤ u ∧ u ≤ 30 ∧ 1 ≤ d ∧ d ≤ 30 ∧ cm u d = false := by
  unfold scE at h
  split at h
  · split at h
    · omega
    · rename_i h1 h2; exact ⟨h1.1, h1.2.1, h1.2.2.1, h1.2.2.2, by simpa using h2⟩
  · omega
@[reducible] def Parts (u d : Int) : Prop := 1 ≤ u ∧ u ≤ 30 ∧ 1 ≤ d ∧ d ≤ 30
theorem scE_parts {u d : Int} (h : scE u d = 0) : Parts u d := by have := scE_ok h; exact ⟨this.1, this.2.1, this.2.2.1, this.2.2.2.1⟩
theorem mul_bd {a b A B : Int} (h0 : 0 ≤ a) (h1 : a ≤ A) (h2 : 0 ≤ b) (h3 : b ≤ B) : 0 ≤ a * b ∧ a * b ≤ A * B := ⟨Int.mul_nonneg h0 h2, Int.mul_le_mul h1 h3 h2 (by omega)⟩
theorem cutS_bd {kind h u d : Int} (h0 : 0 ≤ h) (h1 : h ≤ 9000) (hp : Parts u d) : 0 ≤ cutS kind h u d ∧ cutS kind h u d ≤ 270001 := by
  have hm := mul_bd h0 h1 (show 0 ≤ u by omega) (show u ≤ 30 by omega)
  unfold cutS
  generalize h * u = n at *
  have h2 : 0 ≤ n / d := Int.ediv_nonneg (by omega) (by omega)
  have h3 : n / d ≤ n := Int.ediv_le_self _ (by omega)
  split <;> omega
@[reducible] def ct (kind base u d h : Int) : Int := cutS kind (h - base) u d
def cuts (kind base u d : Int) (hs : List Int) : List Int := hs.map (ct kind base u d)
theorem cuts_len {kind base u d : Int} {hs : List Int} : (cuts kind base u d hs).length = hs.length := by simp [cuts]
theorem getD_map {α β : Type} [Inhabited α] [Inhabited β] (f : α → β) (xs : List α) {i : Nat} (h : i < xs.length) : (xs.map f).getD i default = f (xs.getD i default) := by
  simp [List.getD_eq_getElem?_getD, h]
theorem cuts_at {kind base u d : Int} {hs : List Int} {i : Nat} (h : i < hs.length) : (cuts kind base u d hs).getD i default = ct kind base u d (hs.getD i default) := getD_map _ _ h
def a8 (xs : List Int) : List Value := (List.range 8).map fun i => .int .i64 (xs.getD i default)
theorem a8_len {xs : List Int} : (a8 xs).length = 8 := by simp [a8]
theorem a8_nil : a8 [] = [.int .i64 0, .int .i64 0, .int .i64 0, .int .i64 0, .int .i64 0, .int .i64 0, .int .i64 0, .int .i64 0] := rfl
theorem nth_a8 {xs : List Int} {i : Nat} (h : i < 8) : K.nth (a8 xs) i = .int .i64 (xs.getD i default) := by
  rw [K.nth_eq]
  simp [a8, List.getElem?_map, List.getElem?_range h]
theorem a8_flat {xs : List Int} (h : xs.length ≤ 8) : a8 xs = xs.flatMap K.eI ++ List.replicate (8 - xs.length) (.int .i64 0) := by
  have e1 : xs.flatMap K.eI = xs.map (Value.int .i64) := by
    induction xs with
    | nil => rfl
    | cons x xs ih => simp [List.flatMap_cons, ih (by simp at h; omega)]
  rw [e1]
  apply List.ext_getElem?
  intro i
  rw [List.getElem?_append]
  simp only [List.length_map, a8, List.getElem?_map, List.getElem?_replicate]
  rcases Nat.lt_or_ge i 8 with h8 | h8
  · rw [List.getElem?_range h8]
    rcases Nat.lt_or_ge i xs.length with h1 | h1
    · simp [h1, List.getD_eq_getElem?_getD]
    · have h2 : i - xs.length < 8 - xs.length := by omega
      simp [List.getD_eq_getElem?_getD, h2, Nat.not_lt.2 h1]
  · have h1 : ¬ i < xs.length := by omega
    have h2 : ¬ i - xs.length < 8 - xs.length := by omega
    rw [List.getElem?_eq_none (by simpa using h8)]
    simp [h1, h2]
theorem a8_set {xs : List Int} {v : Int} (h : xs.length < 8) : K.setn (a8 xs) xs.length (.int .i64 v) = a8 (xs ++ [v]) := by
  rw [K.setn_eq]
  apply List.ext_getElem?
  intro i
  rw [List.getElem?_set]
  simp only [a8, List.length_map, List.length_range, List.getElem?_map]
  rcases Nat.lt_or_ge i 8 with h8 | h8
  · rw [List.getElem?_range h8]
    split
    · rename_i h1; subst h1
      simp [h, List.getD_eq_getElem?_getD]
    · rename_i h1
      simp only [List.getD_eq_getElem?_getD, List.getElem?_append, Option.map_some]
      rcases Nat.lt_or_ge i xs.length with h2 | h2
      · simp [h2]
      · have h3 : ¬ i < xs.length := by omega
        have h4 : i - xs.length ≠ 0 := by omega
        simp [h3]
        rw [List.getElem?_eq_none (by simp; omega)]
        rfl
  · rw [List.getElem?_eq_none (by simpa using h8)]
    have h1 : ¬ xs.length = i := by omega
    simp [h1]
theorem take_succ_map {E F : Type} [Inhabited E] (f : E → F) {xs : List E} {k : Nat} (h : k < xs.length) : (xs.take (k + 1)).map f = (xs.take k).map f ++ [f (xs.getD k default)] := by
  rw [List.take_add_one, List.getElem?_eq_getElem h, List.map_append]
  simp [List.getD_eq_getElem?_getD, h]
theorem take_all {E : Type} {xs : List E} {k : Nat} (h : xs.length ≤ k) : xs.take k = xs := List.take_of_length_le h
def fitB (most : Int) (xs : List Int) : Bool := xs.all fun x => decide (x ≤ most)
theorem fitB_snoc {most x : Int} {xs : List Int} : fitB most (xs ++ [x]) = (fitB most xs && decide (x ≤ most)) := by simp [fitB]
@[reducible] def riseS (xs : List Int) (r : Int × Int) : Int := xs.getD r.2.toNat default - xs.getD r.1.toNat default
def offS (u d rise by_ : Int) : Int := if rise = 0 then 0 else (max (1000 * (d * by_ - u * rise)) (-(1000 * (d * by_ - u * rise))) + u * max rise (-rise) - 1) / (u * max rise (-rise))
def selN (p : Nat → Bool) (n : Nat) : List Int := ((List.range n).filter p).map fun (i : Nat) => (i : Int)
theorem selN_succ {p : Nat → Bool} {n : Nat} : selN p (n + 1) = selN p n ++ (if p n then [(n : Int)] else []) := by
  unfold selN
  rw [List.range_succ, List.filter_append, List.map_append]
  split <;> simp_all
theorem selN_len {p : Nat → Bool} {n : Nat} : (selN p n).length ≤ n := by
  unfold selN; rw [List.length_map]
  exact Nat.le_trans (List.length_filter_le _ _) (by simp)
@[reducible] def flatP (hs cs : List Int) (r : Int × Int) : Bool := decide (riseS hs r ≠ 0) && decide (riseS cs r = 0)
def flats (hs cs : List Int) (rs : List (Int × Int)) : List Int := selN (fun i => flatP hs cs (rs.getD i default)) rs.length
def offs (u d : Int) (hs cs : List Int) (rs : List (Int × Int)) : List Int := rs.map fun r => offS u d (riseS hs r) (riseS cs r)
def diffs (xs ys : List Int) : List Int := selN (fun i => decide (xs.getD i default ≠ ys.getD i default)) xs.length
def scsE : List (Int × Int) → Int
  | [] => 0
  | s :: l => if scE s.1 s.2 ≠ 0 then scE s.1 s.2 else scsE l
theorem fst_scsE (l : List (Int × Int)) : (K.fst (fun s : Int × Int => scE s.1 s.2) l).2 = scsE l := by
  induction l with
  | nil => rfl
  | cons s l ih =>
    unfold scsE
    split
    · rename_i h; simp [K.fst, List.findIdx?_cons, h]
    · rename_i h
      have h' : scE s.1 s.2 = 0 := by omega
      rw [← ih]
      simp only [K.fst, List.findIdx?_cons, h', bne_self_eq_false, Bool.false_eq_true, if_false]
      cases l.findIdx? (fun x => scE x.1 x.2 != 0) <;> simp
theorem selN_t {p : Nat → Bool} {n : Nat} (h : p n = true) : selN p (n + 1) = selN p n ++ [(n : Int)] := by rw [selN_succ, if_pos h]
theorem selN_f {p : Nat → Bool} {n : Nat} (h : p n = false) : selN p (n + 1) = selN p n := by rw [selN_succ, h]; simp
@[reducible] def Bd (lo hi : Int) (xs : List Int) : Prop := ∀ i : Nat, lo ≤ xs.getD i default ∧ xs.getD i default ≤ hi
theorem bd_of {lo hi : Int} {xs : List Int} (h0 : lo ≤ 0) (h1 : 0 ≤ hi) (h : ∀ x ∈ xs, lo ≤ x ∧ x ≤ hi) : Bd lo hi xs := fun i => by
  rcases Nat.lt_or_ge i xs.length with h2 | h2
  · exact h _ (K.gt_mem h2)
  · have : xs.getD i default = 0 := by simp [List.getD_eq_getElem?_getD, List.getElem?_eq_none h2]
    rw [this]; exact ⟨h0, h1⟩
theorem Good.bdh {kind base most : Int} {hs : List Int} {rs : List (Int × Int)} (g : Good kind base most hs rs) : Bd 0 9000 hs := bd_of (by omega) (by omega) fun x hx => by
  have := g.h x hx; have := g.b; omega
theorem Good.bdc {kind base most u d : Int} {hs : List Int} {rs : List (Int × Int)} (g : Good kind base most hs rs) (hp : Parts u d) : Bd 0 270001 (cuts kind base u d hs) := bd_of (by omega) (by omega) fun x hx => by
  obtain ⟨y, hy, rfl⟩ := List.mem_map.1 hx
  have := g.h y hy; have := g.b
  exact cutS_bd (by omega) (by omega) hp
theorem mulb {a b A B : Int} (h : 0 ≤ a ∧ a ≤ A) (hb : -B ≤ b ∧ b ≤ B) : -(A * B) ≤ a * b ∧ a * b ≤ A * B := by
  have hB : 0 ≤ B := by omega
  have h1 : a * b ≤ a * B := Int.mul_le_mul_of_nonneg_left hb.2 h.1
  have h2 : a * B ≤ A * B := Int.mul_le_mul_of_nonneg_right h.2 hB
  have h3 : a * (-B) ≤ a * b := Int.mul_le_mul_of_nonneg_left hb.1 h.1
  have h4 : a * (-B) = -(a * B) := Int.mul_neg a B
  omega
theorem load8 {P : Program} {w0 : World} {L : List K.Chunk} {l : List Value} {d : Option Tmp} {ty : TypeId} {ps : String} {af : Array Edge} {g : Option (Nat × Bool)} {t b e : Nat} {x : Operand} {xs : List Int} {z : Int} (ho : K.one P t = true) (hx : K.ev l x = .pointer (some ⟨b, 0 + z.toNat * 1, none⟩))
    (hm : K.blk b e (a8 xs) ∈ L) (h0 : 0 ≤ z) (h8 : z < 8) : K.Sil P w0 L ⟨d, .load t x, ty, ps, af, g⟩ l (.int .i64 (xs.getD z.toNat default)) :=
  (K.load1_ix ho hx hm (by rw [a8_len]; omega)).cast (by rw [nth_a8 (by omega)]; simp)
theorem a8_over {xs : List Int} {v : Int} {z : Int} (h : xs.length < 8) (hz : z = (xs.length : Int)) : K.setn (a8 xs) (0 + z.toNat * 1) (.int .i64 v) = a8 (xs ++ [v]) := by
  subst hz
  have e : 0 + ((xs.length : Int)).toNat * 1 = xs.length := by omega
  rw [e, a8_set h]
theorem snoc_at {xs : List Int} {v z : Int} (hz : z = (xs.length : Int)) : (xs ++ [v]).getD z.toNat default = v := by
  subst hz
  simp [List.getD_eq_getElem?_getD]
theorem rnd_ix {kind : Int} (hk : 1 ≤ kind ∧ kind ≤ 3) : Value.agg ((([Value.func (.func 111) #[] #[], .func (.func 112) #[] #[], .func (.func 113) #[] #[]] : List Value).drop ((kind - 1).toNat * 1)).take 1).toArray = .agg #[.func (.func (110 + kind.toNat)) #[] #[]] := by
  rcases (show kind = 1 ∨ kind = 2 ∨ kind = 3 by omega) with h | h | h <;> subst h <;> rfl
theorem ext_getD {E : Type} [Inhabited E] {xs ys : List E} (hl : xs.length = ys.length) (h : ∀ j, j < xs.length → xs.getD j default = ys.getD j default) : xs = ys := by
  apply List.ext_getElem hl
  intro j h1 h2
  have := h j h1
  simpa [List.getD_eq_getElem?_getD, h1, h2] using this
def askE (kind base most : Int) (hs : List Int) (rs : List (Int × Int)) (u d : Int) : Int := if (chk kind base most hs rs).2.2 ≠ 0 then (chk kind base most hs rs).2.2 else scE u d
theorem Good.road4 {kind base most : Int} {hs : List Int} {rs : List (Int × Int)} (g : Good kind base most hs rs) {i : Nat} (h : i < rs.length) : 0 ≤ (rs.getD i default).1 ∧ (rs.getD i default).1 < hs.length ∧ 0 ≤ (rs.getD i default).2 ∧ (rs.getD i default).2 < hs.length :=
  have := g.road h; ⟨this.1, this.2.1, this.2.2.1, this.2.2.2.1⟩
theorem scsE1 {u v : Int} : scsE [(u, v)] = scE u v := by unfold scsE scsE; split <;> simp_all
theorem scsE2 {u v u2 v2 : Int} : scsE [(u, v), (u2, v2)] = if scE u v ≠ 0 then scE u v else scE u2 v2 := by unfold scsE; rw [scsE1]
section
variable {kind base most : Int} {hs : List Int} {rs : List (Int × Int)} {u v u2 v2 : Int}
theorem askE_bad (h : (chk kind base most hs rs).2.2 ≠ 0) : askE kind base most hs rs u v = (chk kind base most hs rs).2.2 := by unfold askE; rw [if_pos h]
theorem askE_good (g : Good kind base most hs rs) : askE kind base most hs rs u v = scE u v := by unfold askE; rw [g.chk]; rfl
def ask2 (kind base most : Int) (hs : List Int) (rs : List (Int × Int)) (u v u2 v2 : Int) : Int := if askE kind base most hs rs u v ≠ 0 then askE kind base most hs rs u v else scE u2 v2
def cutsR (kind base most : Int) (hs : List Int) (rs : List (Int × Int)) (u v : Int) : List Int := if askE kind base most hs rs u v = 0 then cuts kind base u v hs else []
def offsR (kind base most : Int) (hs : List Int) (rs : List (Int × Int)) (u v : Int) : List Int := if askE kind base most hs rs u v = 0 then offs u v hs (cuts kind base u v hs) rs else []
def flatsR (kind base most : Int) (hs : List Int) (rs : List (Int × Int)) (u v : Int) : List Int := if askE kind base most hs rs u v = 0 then flats hs (cuts kind base u v hs) rs else []
def apartR (kind base most : Int) (hs : List Int) (rs : List (Int × Int)) (u v u2 v2 : Int) : List Int := if ask2 kind base most hs rs u v u2 v2 = 0 then diffs (cuts kind base u v hs) (cuts kind base u2 v2 hs) else []
end
def litA8 (xs : List Int) : List Lit := (List.range 8).map fun i => .int .i64 (xs.getD i default)
theorem litA8_eq {xs ys : List Int} (hl : xs.length = ys.length) (h8 : xs.length ≤ 8) : litA8 xs = litA8 ys ↔ xs = ys := by
  constructor
  · intro h
    refine ext_getD hl fun j hj => ?_
    have h1 : (litA8 xs)[j]? = (litA8 ys)[j]? := by rw [h]
    simpa [litA8, List.getElem?_map, List.getElem?_range (show j < 8 by omega)] using h1
  · intro h; rw [h]
theorem diffs_self (xs : List Int) : diffs xs xs = [] := by
  unfold diffs selN
  simp
end Go.Proofs.YtekkpcpbnonkaaaGreatDoor.Sc

namespace Go.Proofs.YtekkpcpbnonkaaaGreatDoor.Sc
open Go
def sb : Nat → Int × Int → Int × Int → List (Int × Int)
  | 0, _, _ => []
  | n + 1, a, b => if a.1 + b.1 > 30 ∨ a.2 + b.2 > 30 then [] else sb n a (a.1 + b.1, a.2 + b.2) ++ (a.1 + b.1, a.2 + b.2) :: sb n (a.1 + b.1, a.2 + b.2) b
def SB : List (Int × Int) := sb 60 (0, 1) (1, 0)
section
variable (kind base most : Int) (hs : List Int) (rs : List (Int × Int)) (limit : Int)
def fitP (s : Int × Int) : Bool := fitB most (cuts kind base s.1 s.2 hs)
@[reducible] def offP (s r : Int × Int) : Int := offS s.1 s.2 (riseS hs r) (riseS (cuts kind base s.1 s.2 hs) r)
def roadP (s : Int × Int) : Bool := rs.all fun r => decide (offP kind base hs s r ≤ limit)
def okG (s : Int × Int) : Bool := fitP kind base most hs s && roadP kind base hs rs limit s
def okL (s : Int × Int) : Bool := fitP kind base most hs s && decide ((flats hs (cuts kind base s.1 s.2 hs) rs).length = 0)
end
def lastG (p : Int × Int → Bool) (xs : List (Int × Int)) : Int × Int := ((xs.filter p).getLast?).getD (0, 0)
def frstG (p : Int × Int → Bool) (xs : List (Int × Int)) : Int × Int := ((xs.filter p).head?).getD (0, 0)
theorem lastG_t {p : Int × Int → Bool} {xs : List (Int × Int)} {x : Int × Int} (h : p x = true) : lastG p (xs ++ [x]) = x := by
  unfold lastG; rw [List.filter_append]; simp [h]
theorem lastG_f {p : Int × Int → Bool} {xs : List (Int × Int)} {x : Int × Int} (h : p x = false) : lastG p (xs ++ [x]) = lastG p xs := by
  unfold lastG; rw [List.filter_append]; simp [h]
theorem take_snoc {E : Type} {xs : List E} {k : Nat} {x : E} (h : xs[k]? = some x) : xs.take (k + 1) = xs.take k ++ [x] := by
  rw [List.take_add_one, h]; rfl
theorem sb_parts_all : SB.all (fun s => decide (1 ≤ s.1 ∧ s.1 ≤ 30 ∧ 1 ≤ s.2 ∧ s.2 ≤ 30)) = true := by decide +kernel
theorem sb_parts {k : Nat} {x : Int × Int} (h : SB[k]? = some x) : Parts x.1 x.2 := by
  have := List.all_eq_true.1 sb_parts_all x (List.mem_of_getElem? h)
  simpa using this
theorem roadP_all {kind base : Int} {hs : List Int} {rs : List (Int × Int)} {limit : Int} {s : Int × Int} (h : ∀ i, i < rs.length → offP kind base hs s (rs.getD i default) ≤ limit) : roadP kind base hs rs limit s = true := by
  unfold roadP
  rw [List.all_eq_true]
  intro r hr
  obtain ⟨i, hi, rfl⟩ := List.getElem_of_mem hr
  have := h i hi
  rw [List.getD_eq_getElem?_getD, List.getElem?_eq_getElem hi] at this
  simpa using this
theorem roadP_not {kind base : Int} {hs : List Int} {rs : List (Int × Int)} {limit : Int} {s : Int × Int} {i : Nat} (hi : i < rs.length) (h : offP kind base hs s (rs.getD i default) > limit) : roadP kind base hs rs limit s = false := by
  cases hb : roadP kind base hs rs limit s with
  | false => rfl
  | true =>
    unfold roadP at hb
    have := List.all_eq_true.1 hb _ (K.gt_mem hi)
    simp only [decide_eq_true_eq] at this
    omega
theorem okG_t {kind base most : Int} {hs : List Int} {rs : List (Int × Int)} {limit : Int} {s : Int × Int} (h1 : fitP kind base most hs s = true) (h2 : roadP kind base hs rs limit s = true) : okG kind base most hs rs limit s = true := by unfold okG; rw [h1, h2]; rfl
theorem okG_f {kind base most : Int} {hs : List Int} {rs : List (Int × Int)} {limit : Int} {s : Int × Int} (h2 : roadP kind base hs rs limit s = false) : okG kind base most hs rs limit s = false := by unfold okG; rw [h2, Bool.and_false]
theorem frst_none {p : Int × Int → Bool} {xs : List (Int × Int)} (h : ∀ s ∈ xs, p s = false) : frstG p xs = (0, 0) := by
  unfold frstG
  have : xs.filter p = [] := List.filter_eq_nil_iff.2 (fun s hs => by simp [h s hs])
  rw [this]; rfl
theorem frst_some {p : Int × Int → Bool} {xs : List (Int × Int)} {k : Nat} {x : Int × Int} (hx : xs[k]? = some x) (h : ∀ s ∈ xs.take k, p s = false) (hp : p x = true) : frstG p xs = x := by
  unfold frstG
  have e : xs = xs.take k ++ x :: xs.drop (k + 1) := by
    have hk := (List.getElem?_eq_some_iff.1 hx)
    obtain ⟨hk, rfl⟩ := hk
    rw [← List.drop_eq_getElem_cons hk, List.take_append_drop]
  have h1 : (xs.take k).filter p = [] := List.filter_eq_nil_iff.2 (fun s hs => by simp [h s hs])
  rw [e, List.filter_append, h1]
  simp [hp]
theorem part_ne {x : Int × Int} (h : Parts x.1 x.2) : x ≠ (0, 0) := fun e => by subst e; have := h.1; simp at this
theorem all_snoc {p : Int × Int → Bool} {k : Nat} {x : Int × Int} (hx : SB[k]? = some x) (h : ∀ s ∈ SB.take k, p s = false) (hp : p x = false) : ∀ s ∈ SB.take (k + 1), p s = false := by
  intro s hs
  rw [take_snoc hx] at hs
  rcases List.mem_append.1 hs with hs | hs
  · exact h s hs
  · simp at hs; subst hs; exact hp
section
variable {kind base most : Int} {hs : List Int} {rs : List (Int × Int)} {s : Int × Int}
theorem okL_ff (h : fitP kind base most hs s = false) : okL kind base most hs rs s = false := by unfold okL; rw [h]; rfl
theorem okL_fn (h : (flats hs (cuts kind base s.1 s.2 hs) rs).length ≠ 0) : okL kind base most hs rs s = false := by unfold okL; rw [decide_eq_false h, Bool.and_false]
theorem okL_t (h1 : fitP kind base most hs s = true) (h : (flats hs (cuts kind base s.1 s.2 hs) rs).length = 0) : okL kind base most hs rs s = true := by unfold okL; rw [h1, decide_eq_true h]; rfl
end
def markE (n : Int) (x : Int × Int × Int) : Int := if ¬ (0 ≤ x.1 ∧ x.1 ≤ n - 1) then 4 else if ¬ ((0 ≤ x.2.1 ∧ x.2.1 ≤ 100000) ∧ (0 ≤ x.2.2 ∧ x.2.2 ≤ 100000)) then 7 else if x.2.1 > x.2.2 then 2 else 0
theorem markE_0 {n : Int} {x : Int × Int × Int} (h : markE n x = 0) : (0 ≤ x.1 ∧ x.1 ≤ n - 1) ∧ ((0 ≤ x.2.1 ∧ x.2.1 ≤ 100000) ∧ (0 ≤ x.2.2 ∧ x.2.2 ≤ 100000)) ∧ x.2.1 ≤ x.2.2 := by
  unfold markE at h
  split at h
  · omega
  split at h
  · omega
  split at h
  · omega
  · omega
@[reducible] def missP (cs : List Int) (x : Int × Int × Int) : Bool := decide (¬ (x.2.1 ≤ cs.getD x.1.toNat default ∧ cs.getD x.1.toNat default ≤ x.2.2))
def okS (kind base most : Int) (hs : List Int) (ms : List (Int × Int × Int)) (s : Int × Int) : Bool := fitP kind base most hs s && !(ms.any (missP (cuts kind base s.1 s.2 hs)))
theorem sb_len : SB.length ≤ 1000 := by decide +kernel
theorem filt_t {p : Int × Int → Bool} {k : Nat} {x : Int × Int} (hx : SB[k]? = some x) (h : p x = true) : (SB.take (k + 1)).filter p = (SB.take k).filter p ++ [x] := by rw [take_snoc hx, List.filter_append]; simp [h]
theorem filt_f {p : Int × Int → Bool} {k : Nat} {x : Int × Int} (hx : SB[k]? = some x) (h : p x = false) : (SB.take (k + 1)).filter p = (SB.take k).filter p := by rw [take_snoc hx, List.filter_append]; simp [h]
theorem filt_len {p : Int × Int → Bool} {k : Nat} : ((SB.take k).filter p).length ≤ 1000 := Nat.le_trans (List.length_filter_le _ _) (Nat.le_trans (by rw [List.length_take]; omega) sb_len)
def marksE (kind base most : Int) (hs : List Int) (rs : List (Int × Int)) (ms : List (Int × Int × Int)) : Int :=
  if (chk kind base most hs rs).2.2 ≠ 0 then (chk kind base most hs rs).2.2 else if ms.length > 8 then 3 else (K.fst (markE hs.length) ms).2
def scalesR (kind base most : Int) (hs : List Int) (rs : List (Int × Int)) (ms : List (Int × Int × Int)) : List (Int × Int) := if marksE kind base most hs rs ms = 0 then SB.filter (okS kind base most hs ms) else []
theorem ptr8 {w0 : World} {b : Nat} {cs : List Int} {z : Int} (h : K.PtrL w0 [] ⟨b, 0, none⟩ (a8 cs)) (h0 : 0 ≤ z) (h8 : z < 8) : K.PtrL w0 [] ⟨b, 0 + z.toNat * 1, none⟩ (.int .i64 (cs.getD z.toNat default) :: (a8 cs).drop (z.toNat + 1)) := by
  have h1 := K.PtrL.fld h (k := z.toNat)
  rw [K.add_lit] at h1
  have e : (a8 cs).drop z.toNat = .int .i64 (cs.getD z.toNat default) :: (a8 cs).drop (z.toNat + 1) := by
    rw [List.drop_eq_getElem_cons (by rw [a8_len]; omega)]
    congr 1
    simp [a8]
  rw [e] at h1
  simpa using h1
end Go.Proofs.YtekkpcpbnonkaaaGreatDoor.Sc

namespace Go.Proofs.YtekkpcpbnonkaaaGreatDoor.Sc
open Go
@[reducible] def ltS (a b : Int × Int) : Prop := a.1 * b.2 < b.1 * a.2
theorem ltS_trans {a b c : Int × Int} (ha : 0 < a.2) (hb : 0 < b.2) (hc : 0 < c.2) (h1 : ltS a b) (h2 : ltS b c) : ltS a c := by
  unfold ltS at *
  have e1 : a.1 * b.2 * c.2 < b.1 * a.2 * c.2 := Int.mul_lt_mul_of_pos_right h1 hc
  have e2 : b.1 * c.2 * a.2 < c.1 * b.2 * a.2 := Int.mul_lt_mul_of_pos_right h2 ha
  have e3 : b.1 * a.2 * c.2 = b.1 * c.2 * a.2 := by rw [Int.mul_assoc, Int.mul_comm a.2, ← Int.mul_assoc]
  have e4 : a.1 * b.2 * c.2 = a.1 * c.2 * b.2 := by rw [Int.mul_assoc, Int.mul_comm b.2, ← Int.mul_assoc]
  have e5 : c.1 * b.2 * a.2 = c.1 * a.2 * b.2 := by rw [Int.mul_assoc, Int.mul_comm b.2, ← Int.mul_assoc]
  exact Int.lt_of_mul_lt_mul_right (a := b.2) (by omega) (by omega)
def chainB : List (Int × Int) → Bool
  | [] => true
  | a :: l => decide (0 < a.2) && (match l with | [] => true | b :: _ => decide (ltS a b)) && chainB l
theorem chain_pos : ∀ {l : List (Int × Int)}, chainB l = true → ∀ x ∈ l, 0 < x.2
  | [], _, x, hx => by cases hx
  | a :: l, h, x, hx => by
    simp only [chainB, Bool.and_eq_true, decide_eq_true_eq] at h
    rcases List.mem_cons.1 hx with rfl | hx
    · exact h.1.1
    · exact chain_pos h.2 x hx
theorem chain_pw : ∀ {l : List (Int × Int)}, chainB l = true → l.Pairwise ltS
  | [], _ => .nil
  | [a], _ => by simp
  | a :: b :: l, h => by
    have hp := chain_pos h
    have h2 : chainB (b :: l) = true := by simp only [chainB, Bool.and_eq_true] at h ⊢; exact h.2
    have hab : ltS a b := by simp only [chainB, Bool.and_eq_true, decide_eq_true_eq] at h; exact h.1.2
    have ih := chain_pw h2
    refine .cons (fun x hx => ?_) ih
    rcases List.mem_cons.1 hx with rfl | hx
    · exact hab
    · exact ltS_trans (hp _ (by simp)) (hp _ (by simp)) (hp _ (by simp [hx])) hab (List.rel_of_pairwise_cons ih hx)
theorem sb_pw : SB.Pairwise ltS := chain_pw (by decide +kernel)
theorem ediv_mono {x b y d : Int} (hb : 0 < b) (hd : 0 < d) (h : x * d ≤ y * b) : x / b ≤ y / d := by
  refine Int.le_ediv_of_mul_le hd ?_
  have h1 : x / b * b ≤ x := Int.ediv_mul_le _ (by omega)
  have h2 : x / b * b * d ≤ x * d := Int.mul_le_mul_of_nonneg_right h1 (by omega)
  have e : x / b * b * d = x / b * d * b := by rw [Int.mul_assoc, Int.mul_comm b, ← Int.mul_assoc]
  exact Int.le_of_mul_le_mul_right (by omega) hb
theorem ceil_mono {x b y d : Int} (hb : 0 < b) (hd : 0 < d) (h : x * d ≤ y * b) : (x + b - 1) / b ≤ (y + d - 1) / d := by
  generalize hq : (y + d - 1) / d = q
  have h1 : y ≤ q * d := by
    have := Int.lt_mul_ediv_self_add (x := y + d - 1) hd
    rw [hq, Int.mul_comm] at this
    omega
  have h2 : y * b ≤ q * d * b := Int.mul_le_mul_of_nonneg_right h1 (by omega)
  have e : q * d * b = q * b * d := by rw [Int.mul_assoc, Int.mul_comm d, ← Int.mul_assoc]
  have h3 : x ≤ q * b := Int.le_of_mul_le_mul_right (a := d) (by omega) hd
  have h4 : (x + b - 1) / b < q + 1 := Int.ediv_lt_of_lt_mul hb (by rw [Int.add_mul]; omega)
  omega
theorem cut_mono {kind h h' a b c d : Int} (hk : 1 ≤ kind ∧ kind ≤ 3) (h0 : 0 ≤ h) (hh : h ≤ h') (ha : 0 ≤ a) (hb : 1 ≤ b) (hd : 1 ≤ d) (hs : a * d ≤ c * b) : cutS kind h a b ≤ cutS kind h' c d := by
  rw [← rnd_cut hk hb, ← rnd_cut hk hd]
  have h1 : h * (a * d) ≤ h' * (c * b) := Int.mul_le_mul hh hs (Int.mul_nonneg ha (by omega)) (by omega)
  have h2 : h * a * d ≤ h' * c * b := by rw [Int.mul_assoc, Int.mul_assoc]; exact h1
  unfold rndS
  split
  · exact ediv_mono (by omega) (by omega) h2
  split
  · refine ediv_mono (by omega) (by omega) ?_
    have e1 : (2 * (h * a) + b) * (2 * d) = 4 * (h * a * d) + 2 * (b * d) := by
      rw [Int.add_mul, Int.mul_left_comm b 2 d, show (2 * (h * a)) * (2 * d) = 4 * (h * a * d) by rw [Int.mul_assoc 2, Int.mul_left_comm (h * a) 2 d]; omega]
    have e2 : (2 * (h' * c) + d) * (2 * b) = 4 * (h' * c * b) + 2 * (b * d) := by
      rw [Int.add_mul, Int.mul_left_comm d 2 b, show (2 * (h' * c)) * (2 * b) = 4 * (h' * c * b) by rw [Int.mul_assoc 2, Int.mul_left_comm (h' * c) 2 b]; omega, Int.mul_comm d b]
    omega
  · exact ceil_mono (by omega) (by omega) h2
theorem fitB_mono {most : Int} {xs ys : List Int} (hl : xs.length = ys.length) (h : ∀ j, j < xs.length → xs.getD j default ≤ ys.getD j default) (hf : fitB most ys = true) : fitB most xs = true := by
  unfold fitB at *
  rw [List.all_eq_true] at *
  intro x hx
  obtain ⟨j, hj, rfl⟩ := List.getElem_of_mem hx
  have h1 := h j hj
  have h2 := hf _ (K.gt_mem (xs := ys) (k := j) (by omega))
  simp only [decide_eq_true_eq, List.getD_eq_getElem?_getD, List.getElem?_eq_getElem hj, Option.getD_some] at h1 h2 ⊢
  omega
section
variable {kind base most : Int} {hs : List Int} {rs : List (Int × Int)}
theorem cuts_mono (g : Good kind base most hs rs) {s t : Int × Int} (hs1 : Parts s.1 s.2) (ht : Parts t.1 t.2) (h : s.1 * t.2 ≤ t.1 * s.2) : ∀ j, j < (cuts kind base s.1 s.2 hs).length → (cuts kind base s.1 s.2 hs).getD j default ≤ (cuts kind base t.1 t.2 hs).getD j default := by
  intro j hj
  rw [cuts_len] at hj
  rw [cuts_at hj, cuts_at hj]
  have := g.at hj
  exact cut_mono g.k (by omega) (Int.le_refl _) (by omega) (by omega) (by omega) h
theorem fit_mono (g : Good kind base most hs rs) {s t : Int × Int} (hs1 : Parts s.1 s.2) (ht : Parts t.1 t.2) (h : s.1 * t.2 ≤ t.1 * s.2) (hf : fitP kind base most hs t = true) : fitP kind base most hs s = true :=
  fitB_mono (by rw [cuts_len, cuts_len]) (cuts_mono g hs1 ht h) hf
theorem lastG_cut {limit : Int} (g : Good kind base most hs rs) {k : Nat} {x : Int × Int} (hx : SB[k]? = some x) (hf : fitP kind base most hs x = false) :
    lastG (okG kind base most hs rs limit) (SB.take k) = lastG (okG kind base most hs rs limit) SB := by
  have hk : k < SB.length := (List.getElem?_eq_some_iff.1 hx).1
  have hxe : SB[k] = x := (List.getElem?_eq_some_iff.1 hx).2
  have hd : (SB.drop k).filter (okG kind base most hs rs limit) = [] := by
    rw [List.filter_eq_nil_iff]
    intro y hy hok
    have hfy : fitP kind base most hs y = true := by unfold okG at hok; simp only [Bool.and_eq_true] at hok; exact hok.1
    have hy' : y ∈ SB := List.mem_of_mem_drop hy
    obtain ⟨j, hj, hyj⟩ := List.getElem_of_mem hy'
    have hpy := sb_parts (k := j) (x := y) (by rw [List.getElem?_eq_getElem hj, hyj])
    rw [List.drop_eq_getElem_cons hk, hxe] at hy
    rcases List.mem_cons.1 hy with rfl | hy
    · rw [hf] at hfy; cases hfy
    · have hlt : ltS x y := by
        have h1 : (SB.drop k).Pairwise ltS := List.Pairwise.sublist (List.drop_sublist _ _) sb_pw
        rw [List.drop_eq_getElem_cons hk, hxe] at h1
        exact List.rel_of_pairwise_cons h1 hy
      rw [fit_mono g (sb_parts hx) hpy (Int.le_of_lt hlt) hfy] at hf
      cases hf
  have e : SB.filter (okG kind base most hs rs limit) = (SB.take k).filter (okG kind base most hs rs limit) := by
    conv => lhs; rw [← List.take_append_drop k SB]
    rw [List.filter_append, hd, List.append_nil]
  unfold lastG
  rw [e]
end
end Go.Proofs.YtekkpcpbnonkaaaGreatDoor.Sc

namespace Go.Proofs.YtekkpcpbnonkaaaGreatDoor.Sc
open Go
def evR (u : Nat) (j : Nat) : List (Int × Int) := ((List.range j).filter fun (d : Nat) => !cm ((u : Int) + 1) ((d : Int) + 1)).map fun (d : Nat) => ((u : Int) + 1, (d : Int) + 1)
def evU (k : Nat) : List (Int × Int) := (List.range k).flatMap fun u => evR u 30
def EV : List (Int × Int) := evU 30
section
variable {kind base most : Int} {hs : List Int} {rs : List (Int × Int)} {ms : List (Int × Int × Int)} {j : Nat}
end
def bestI (better : Int × Int → Int × Int → Bool) (ok : Int × Int → Bool) : Nat → Int
  | 0 => -1
  | i + 1 => if (bestI better ok i < 0 ∨ better (EV.getD (bestI better ok i).toNat default) (EV.getD i default) = true) ∧ ok (EV.getD i default) = true then i else bestI better ok i
section
variable {better : Int × Int → Int × Int → Bool} {ok : Int × Int → Bool} {i : Nat} {b : Int}
end
end Go.Proofs.YtekkpcpbnonkaaaGreatDoor.Sc

namespace Go.Proofs.YtekkpcpbnonkaaaGreatDoor.Sc
open Go
theorem div_step {u v n : Int} (hp : Parts u v) (hn : 2 ≤ n) (hu : u % n = 0) (hv : v % n = 0) (hall : ∀ m, n < m → m ≤ 30 → ¬ (u % m = 0 ∧ v % m = 0)) :
    Parts (u / n) (v / n) ∧ ∀ m, n - 1 < m → m ≤ 30 → ¬ (u / n % m = 0 ∧ v / n % m = 0) := by
  obtain ⟨a, rfl⟩ := Int.dvd_of_emod_eq_zero hu
  obtain ⟨b, rfl⟩ := Int.dvd_of_emod_eq_zero hv
  rw [Int.mul_ediv_cancel_left _ (by omega), Int.mul_ediv_cancel_left _ (by omega)]
  have ha : 1 ≤ a := by
    rcases Int.lt_or_le a 1 with h | h
    · have : n * a ≤ 0 := Int.mul_nonpos_of_nonneg_of_nonpos (by omega) (by omega)
      omega
    · exact h
  have hb : 1 ≤ b := by
    rcases Int.lt_or_le b 1 with h | h
    · have : n * b ≤ 0 := Int.mul_nonpos_of_nonneg_of_nonpos (by omega) (by omega)
      omega
    · exact h
  have ha2 : a ≤ n * a := by have := Int.mul_le_mul_of_nonneg_right (show 1 ≤ n by omega) (show 0 ≤ a by omega); omega
  have hb2 : b ≤ n * b := by have := Int.mul_le_mul_of_nonneg_right (show 1 ≤ n by omega) (show 0 ≤ b by omega); omega
  refine ⟨⟨ha, by omega, hb, by omega⟩, fun m h1 h2 ⟨h3, h4⟩ => ?_⟩
  obtain ⟨c, rfl⟩ := Int.dvd_of_emod_eq_zero h3
  obtain ⟨e, rfl⟩ := Int.dvd_of_emod_eq_zero h4
  have hc : 1 ≤ c := by
    rcases Int.lt_or_le c 1 with h | h
    · have : m * c ≤ 0 := Int.mul_nonpos_of_nonneg_of_nonpos (by omega) (by omega)
      omega
    · exact h
  have hnm : n < n * m := by
    have := Int.mul_lt_mul_of_pos_left (show 1 < m by omega) (show 0 < n by omega)
    omega
  have e1 : n * (m * c) = n * m * c := (Int.mul_assoc n m c).symm
  have e2 : n * (m * e) = n * m * e := (Int.mul_assoc n m e).symm
  have hle : n * m ≤ n * m * c := by
    have := Int.mul_le_mul_of_nonneg_left hc (show 0 ≤ n * m by omega)
    omega
  refine hall (n * m) hnm (by omega) ⟨by rw [e1]; exact Int.mul_emod_right _ _, by rw [e2]; exact Int.mul_emod_right _ _⟩
theorem scE_of {u v : Int} (hp : Parts u v) (hall : ∀ m, 1 < m → m ≤ 30 → ¬ (u % m = 0 ∧ v % m = 0)) : scE u v = 0 := by
  unfold scE
  rw [if_pos hp, cm_false (fun n h1 h2 => hall n (by omega) h2)]
  rfl
end Go.Proofs.YtekkpcpbnonkaaaGreatDoor.Sc
end
section
set_option linter.unusedSimpArgs false
set_option linter.unusedVariables false
namespace Go.Proofs.YtekkpcpbnonkaaaGreatDoor.Sc
open Go
theorem bit_all : (List.range 256).all (fun s => (List.range 8).all fun i => decide (IntKind.i64.wrap (BitVec.ofInt IntKind.i64.bits (((s : Nat) : Int).fdiv (2 ^ min (Int.toNat ((i : Nat) : Int)) IntKind.i64.bits)) &&& BitVec.ofInt IntKind.i64.bits 1).toNat = if s.testBit i then 1 else 0)) = true := by decide +kernel
theorem bit_val {s i : Nat} (hs : s < 256) (hi : i < 8) : IntKind.i64.wrap (BitVec.ofInt IntKind.i64.bits (((s : Nat) : Int).fdiv (2 ^ min (Int.toNat ((i : Nat) : Int)) IntKind.i64.bits)) &&& BitVec.ofInt IntKind.i64.bits 1).toNat = if s.testBit i then 1 else 0 := by
  have h := List.all_eq_true.1 (List.all_eq_true.1 bit_all s (List.mem_range.2 hs)) i (List.mem_range.2 hi)
  simpa using h
theorem shl_val {n : Nat} (hn : n ≤ 8) : IntKind.i64.wrap (1 * 2 ^ min (Int.toNat (n : Int)) IntKind.i64.bits) = ((2 ^ n : Nat) : Int) := by
  have h : ∀ k ∈ List.range 9, IntKind.i64.wrap (1 * 2 ^ min (Int.toNat ((k : Nat) : Int)) IntKind.i64.bits) = ((2 ^ k : Nat) : Int) := by decide +kernel
  exact h n (List.mem_range.2 (by omega))
theorem pow_bd {n : Nat} (hn : n ≤ 8) : 2 ^ n ≤ 256 := by
  have h : ∀ k ∈ List.range 9, 2 ^ k ≤ 256 := by decide +kernel
  exact h n (List.mem_range.2 (by omega))
def popN (s : Nat) : Nat := ((List.range 8).filter fun i => s.testBit i).length
def mkI (s k : Nat) (xs : List Int) : List Int := (List.range 8).map fun i => if i < k ∧ s.testBit i = false then 0 else xs.getD i default
theorem mkI_len {s k : Nat} {xs : List Int} : (mkI s k xs).length = 8 := by simp [mkI]
theorem mkI_at {s k i : Nat} {xs : List Int} (hi : i < 8) : (mkI s k xs).getD i default = if i < k ∧ s.testBit i = false then 0 else xs.getD i default := by
  unfold mkI; rw [getD_map _ _ (by simpa using hi)]; simp [List.getD_eq_getElem?_getD, hi]
theorem a8_mk0 {s : Nat} {xs : List Int} : a8 (mkI s 0 xs) = a8 xs := by
  unfold a8
  apply List.map_congr_left
  intro i hi
  rw [mkI_at (List.mem_range.1 hi)]; simp
theorem a8_mkT {s k : Nat} {xs : List Int} (h : s.testBit k = true) : a8 (mkI s k xs) = a8 (mkI s (k + 1) xs) := by
  unfold a8
  apply List.map_congr_left
  intro i hi
  rw [mkI_at (List.mem_range.1 hi), mkI_at (List.mem_range.1 hi)]
  congr 1
  by_cases hik : i = k
  · subst hik; simp [h]
  · have : (i < k ∧ s.testBit i = false) ↔ (i < k + 1 ∧ s.testBit i = false) := by constructor <;> rintro ⟨h1, h2⟩ <;> exact ⟨by omega, h2⟩
    simp only [this]
theorem a8_mkF {s k : Nat} {xs : List Int} (hk : k < 8) (h : s.testBit k = false) : K.setn (a8 (mkI s k xs)) (0 + (k : Int).toNat * 1) (.int .i64 0) = a8 (mkI s (k + 1) xs) := by
  have e : 0 + (k : Int).toNat * 1 = k := by omega
  rw [e, K.setn_eq]
  apply List.ext_getElem?
  intro i
  rw [List.getElem?_set]
  simp only [a8, List.length_map, List.length_range, List.getElem?_map]
  rcases Nat.lt_or_ge i 8 with h8 | h8
  · rw [List.getElem?_range h8]
    simp only [Option.map_some]
    rw [mkI_at h8, mkI_at h8]
    by_cases hik : k = i
    · subst hik
      simp only [if_true, hk, h]
      have : k < k + 1 ∧ True := ⟨by omega, trivial⟩
      simp
    · have : (i < k ∧ s.testBit i = false) ↔ (i < k + 1 ∧ s.testBit i = false) := by constructor <;> rintro ⟨h1, h2⟩ <;> exact ⟨by omega, h2⟩
      simp only [hik, if_false, this]
  · rw [List.getElem?_eq_none (by simpa using h8)]
    have : ¬ k = i := by omega
    simp [this]
@[reducible] def kv (z : List Int) : Value := .agg (a8 z).toArray
theorem a8_inj {x y : List Int} (hx : x.length = 8) (hy : y.length = 8) (h : a8 x = a8 y) : x = y := by
  refine ext_getD (by omega) fun j hj => ?_
  have h1 : (a8 x)[j]? = (a8 y)[j]? := by rw [h]
  simpa [a8, List.getElem?_map, List.getElem?_range (show j < 8 by omega)] using h1
theorem kv_inj {x y : List Int} (hx : x.length = 8) (hy : y.length = 8) (h : kv x = kv y) : x = y := by
  unfold kv at h
  injection h with h
  exact a8_inj hx hy (by simpa using h)
section
variable {E : Type} [DecidableEq E]
def ddK (zs : List E) : List E := zs.foldl K.insK []
theorem ddK_snoc {zs : List E} {z : E} : ddK (zs ++ [z]) = K.insK (ddK zs) z := by unfold ddK; rw [List.foldl_append]; rfl
theorem mem_insK {ks : List E} {k z : E} : z ∈ K.insK ks k ↔ z ∈ ks ∨ z = k := by
  unfold K.insK
  split
  · rename_i h
    constructor
    · exact .inl
    · rintro (h1 | rfl)
      · exact h1
      · exact h
  · simp
theorem mem_ddK {zs : List E} {z : E} : z ∈ ddK zs ↔ z ∈ zs := by
  have key : ∀ (zs : List E) (acc : List E), z ∈ zs.foldl K.insK acc ↔ z ∈ acc ∨ z ∈ zs := by
    intro zs
    induction zs with
    | nil => simp
    | cons y zs ih =>
      intro acc
      rw [List.foldl_cons, ih, mem_insK, List.mem_cons, or_assoc]
  unfold ddK
  rw [key]; simp
end
section
variable (kind base : Int) (hs : List Int)
def keysT (s : Nat) (l : List (Int × Int)) : List (List Int) := l.map fun x => mkI s 8 (cuts kind base x.1 x.2 hs)
def apB (l : List (Int × Int)) (s : Nat) : Bool := decide ((ddK (keysT kind base hs s l)).length = l.length)
def ptsS (n s : Nat) : List Int := selN (fun i => s.testBit i) n
def cmpL : List Int → List Int → Int
  | [], [] => 0
  | [], _ :: _ => -1
  | _ :: _, [] => 1
  | a :: x, b :: y => if a < b then -1 else if a > b then 1 else cmpL x y
def tellF (l : List (Int × Int)) (n : Nat) : Nat → List Int × Nat
  | 0 => ([], n + 1)
  | s + 1 =>
    if popN s > (tellF l n s).2 ∨ apB kind base hs l s = false then tellF l n s
    else if (ptsS n s).length < (tellF l n s).2 ∨ cmpL (ptsS n s) (tellF l n s).1 < 0 then (ptsS n s, (ptsS n s).length) else tellF l n s
end
def cmpS (a b : Int) : Int := if a < b then -1 else if a > b then 1 else 0
theorem cmp0 {a b : Int} (h : cmpS a b = 0) : a = b := by unfold cmpS at h; split at h <;> (try split at h) <;> omega
theorem cmpL_cons {a b : Int} {x y : List Int} : cmpL (a :: x) (b :: y) = if cmpS a b ≠ 0 then cmpS a b else cmpL x y := by
  unfold cmpS; rw [cmpL]
  split
  · simp
  · split <;> simp
theorem cmpL_drop : ∀ {k : Nat} {xs ys : List Int}, (∀ j, j < k → xs.getD j default = ys.getD j default) → k ≤ xs.length → k ≤ ys.length → cmpL xs ys = cmpL (xs.drop k) (ys.drop k)
  | 0, _, _, _, _, _ => rfl
  | k + 1, [], _, _, h, _ => by simp at h
  | k + 1, _ :: _, [], _, _, h => by simp at h
  | k + 1, x :: xs, y :: ys, hall, h1, h2 => by
    have h0 := hall 0 (by omega)
    simp at h0
    rw [cmpL_cons, if_neg (by subst h0; simp [cmpS]), List.drop_succ_cons, List.drop_succ_cons]
    exact cmpL_drop (fun j hj => by have := hall (j + 1) (by omega); simpa using this) (by simpa using h1) (by simpa using h2)
section
variable {k : Nat} {xs ys : List Int}
theorem cmpL_long (hall : ∀ j, j < k → xs.getD j default = ys.getD j default) (h1 : k < xs.length) (h2 : k = ys.length) : cmpL xs ys = 1 := by
  rw [cmpL_drop hall (by omega) (by omega), show ys.drop k = [] from List.drop_of_length_le (by omega), List.drop_eq_getElem_cons h1]; rfl
theorem cmpL_diff (hall : ∀ j, j < k → xs.getD j default = ys.getD j default) (h1 : k < xs.length) (h2 : k < ys.length) (hne : cmpS (xs.getD k default) (ys.getD k default) ≠ 0) : cmpL xs ys = cmpS (xs.getD k default) (ys.getD k default) := by
  rw [cmpL_drop hall (by omega) (by omega), List.drop_eq_getElem_cons h1, List.drop_eq_getElem_cons h2, cmpL_cons]
  simp only [List.getD_eq_getElem?_getD, List.getElem?_eq_getElem h1, List.getElem?_eq_getElem h2, Option.getD_some] at hne ⊢
  rw [if_pos hne]
theorem cmpL_short (hall : ∀ j, j < k → xs.getD j default = ys.getD j default) (h1 : k = xs.length) (h2 : k < ys.length) : cmpL xs ys = -1 := by
  rw [cmpL_drop hall (by omega) (by omega), show xs.drop k = [] from List.drop_of_length_le (by omega), List.drop_eq_getElem_cons h2]; rfl
theorem cmpL_same (hall : ∀ j, j < k → xs.getD j default = ys.getD j default) (h1 : k = xs.length) (h2 : k = ys.length) : cmpL xs ys = 0 := by
  rw [cmpL_drop hall (by omega) (by omega), show xs.drop k = [] from List.drop_of_length_le (by omega), show ys.drop k = [] from List.drop_of_length_le (by omega)]; rfl
end
end Go.Proofs.YtekkpcpbnonkaaaGreatDoor.Sc

namespace Go.Proofs.YtekkpcpbnonkaaaGreatDoor.Sc
open Go
section
variable {kind base most : Int} {hs : List Int} {rs : List (Int × Int)} {l : List (Int × Int)} {n s : Nat} {F : List Int × Nat}
theorem tellF_skip1 (hF : F = tellF kind base hs l n s) (h : popN s > F.2) : F = tellF kind base hs l n (s + 1) := by
  subst hF; rw [tellF, if_pos (.inl h)]
theorem tellF_skip2 (hF : F = tellF kind base hs l n s) (h : apB kind base hs l s = false) : F = tellF kind base hs l n (s + 1) := by
  subst hF; rw [tellF, if_pos (.inr h)]
theorem tellF_t (hF : F = tellF kind base hs l n s) (h1 : ¬ popN s > F.2) (h2 : apB kind base hs l s = true) (h3 : (ptsS n s).length < F.2 ∨ cmpL (ptsS n s) F.1 < 0) : (ptsS n s, (ptsS n s).length) = tellF kind base hs l n (s + 1) := by
  subst hF; rw [tellF, if_neg (by rw [h2]; simp; omega), if_pos h3]
theorem tellF_f (hF : F = tellF kind base hs l n s) (h1 : ¬ popN s > F.2) (h2 : apB kind base hs l s = true) (h3 : ¬ ((ptsS n s).length < F.2 ∨ cmpL (ptsS n s) F.1 < 0)) : F = tellF kind base hs l n (s + 1) := by
  subst hF; rw [tellF, if_neg (by rw [h2]; simp; omega), if_neg h3]
theorem pts_len : (ptsS n s).length ≤ n := selN_len
theorem tellF_len : ∀ s, (tellF kind base hs l n s).1.length ≤ n ∧ (tellF kind base hs l n s).2 ≤ n + 1
  | 0 => by simp [tellF]
  | s + 1 => by
    have ih := tellF_len s
    unfold tellF
    split
    · exact ih
    · split
      · have := @pts_len n s
        exact ⟨this, by simp only; omega⟩
      · exact ih
end
section
variable (kind base most : Int) (hs : List Int) (rs : List (Int × Int)) (l : List (Int × Int))
def tellE : Int :=
  if (chk kind base most hs rs).2.2 ≠ 0 then (chk kind base most hs rs).2.2
  else if l.length > 6 then 3
  else if scsE l ≠ 0 then scsE l
  else if apB kind base hs l (2 ^ hs.length - 1) = false then 5 else 0
def tellR : List Int := if tellE kind base most hs rs l = 0 then (tellF kind base hs l hs.length (2 ^ hs.length)).1 else []
end
section
variable {kind base most : Int} {hs : List Int} {rs : List (Int × Int)} {l : List (Int × Int)}
theorem te_chk (h : (chk kind base most hs rs).2.2 ≠ 0) : tellE kind base most hs rs l = (chk kind base most hs rs).2.2 := by unfold tellE; rw [if_pos h]
theorem te_long (h : (chk kind base most hs rs).2.2 = 0) (h6 : l.length > 6) : tellE kind base most hs rs l = 3 := by unfold tellE; rw [if_neg (by omega), if_pos h6]
theorem te_sc (h : (chk kind base most hs rs).2.2 = 0) (h6 : ¬ l.length > 6) (h1 : scsE l ≠ 0) : tellE kind base most hs rs l = scsE l := by unfold tellE; rw [if_neg (by omega), if_neg h6, if_pos h1]
theorem te_tw (h : (chk kind base most hs rs).2.2 = 0) (h6 : ¬ l.length > 6) (h1 : scsE l = 0) (h2 : apB kind base hs l (2 ^ hs.length - 1) = false) : tellE kind base most hs rs l = 5 := by unfold tellE; rw [if_neg (by omega), if_neg h6, if_neg (by omega), if_pos h2]
theorem te_ok (h : (chk kind base most hs rs).2.2 = 0) (h6 : ¬ l.length > 6) (h1 : scsE l = 0) (h2 : apB kind base hs l (2 ^ hs.length - 1) = true) : tellE kind base most hs rs l = 0 := by unfold tellE; rw [if_neg (by omega), if_neg h6, if_neg (by omega), if_neg (by rw [h2]; decide)]
theorem tr_bad (h : tellE kind base most hs rs l ≠ 0) : tellR kind base most hs rs l = [] := by unfold tellR; rw [if_neg h]
theorem scsE_mem : ∀ {l : List (Int × Int)}, scsE l = 0 → ∀ x ∈ l, scE x.1 x.2 = 0
  | [], _, x, hx => by cases hx
  | a :: l, h, x, hx => by
    unfold scsE at h
    split at h
    · rename_i h1; exact absurd h h1
    · rcases List.mem_cons.1 hx with rfl | hx
      · omega
      · exact scsE_mem h x hx
theorem scsE_parts {l : List (Int × Int)} (h : scsE l = 0) : ∀ x ∈ l, Parts x.1 x.2 := fun x hx => scE_parts (scsE_mem h x hx)
end
end Go.Proofs.YtekkpcpbnonkaaaGreatDoor.Sc
end
section
set_option linter.unusedSimpArgs false
set_option linter.unusedVariables false
namespace Go.Proofs.YtekkpcpbnonkaaaGreatDoor.Sc
open Go
section
variable {better : Int × Int → Int × Int → Bool} {ok : Int × Int → Bool}
end
section
variable {kind base most : Int} {hs : List Int} {rs : List (Int × Int)} {limit : Int}
end
section
variable (kind base most : Int) (hs : List Int) (rs : List (Int × Int)) (limit : Int)
def grtR : (Int × Int) × Int :=
  if (chk kind base most hs rs).2.2 ≠ 0 then ((0, 0), (chk kind base most hs rs).2.2)
  else if ¬ (0 ≤ limit ∧ limit ≤ 1000000) then ((0, 0), 7)
  else if lastG (okG kind base most hs rs limit) SB = (0, 0) then ((0, 0), 9) else (lastG (okG kind base most hs rs limit) SB, 0)
def lstR : (Int × Int) × Int :=
  if (chk kind base most hs rs).2.2 ≠ 0 then ((0, 0), (chk kind base most hs rs).2.2)
  else if frstG (okL kind base most hs rs) SB = (0, 0) then ((0, 0), 9) else (frstG (okL kind base most hs rs) SB, 0)
end
@[reducible] def sev (r : (Int × Int) × Int) : Value := .tuple #[.agg #[.int .i64 r.1.1, .int .i64 r.1.2], .int .i64 r.2]
end Go.Proofs.YtekkpcpbnonkaaaGreatDoor.Sc
end
section
set_option linter.unusedSimpArgs false
set_option linter.unusedVariables false
namespace Go.Proofs.YtekkpcpbnonkaaaGreatDoor.Sc
open Go
def caH : List Int := [100, 110, 125, 160]
def caR : List (Int × Int) := [(0, 1), (1, 2), (3, 2)]
theorem a17 : cutsR 2 100 50 caH caR 1 2 = [0, 5, 13, 30] ∧ askE 2 100 50 caH caR 1 2 = 0 := by decide +kernel
theorem a20 : offsR 2 100 50 caH caR 2 3 = [50, 0, 15] ∧ askE 2 100 50 caH caR 2 3 = 0 := by decide +kernel
theorem a22 : flatsR 2 100 50 caH caR 1 30 = [0] ∧ askE 2 100 50 caH caR 1 30 = 0 := by decide +kernel
theorem a27 : grtR 2 100 50 caH caR 47 = ((5, 6), 0) := by decide +kernel
theorem a29 : lstR 2 100 50 caH caR = ((1, 16), 0) := by decide +kernel
theorem a31 : scalesR 2 100 50 caH caR [(3, 41, 41)] = [(19, 28), (17, 25), (15, 22), (13, 19), (11, 16), (20, 29)] ∧ marksE 2 100 50 caH caR [(3, 41, 41)] = 0 := by decide +kernel
theorem a24 : apartR 2 100 50 caH caR 1 2 2 3 = [1, 2, 3] ∧ ask2 2 100 50 caH caR 1 2 2 3 = 0 := by decide +kernel
theorem a34 : tellR 2 100 50 caH caR [(1, 2), (3, 5), (2, 3)] = [1] ∧ tellE 2 100 50 caH caR [(1, 2), (3, 5), (2, 3)] = 0 := by decide +kernel
theorem a34b : tellR 2 100 50 caH caR [(19, 28), (17, 25)] = [] ∧ tellE 2 100 50 caH caR [(19, 28), (17, 25)] = 5 := by decide +kernel
theorem b20 : offsR 2 100 50 caH caR 1 2 = [0, 67, 29] ∧ askE 2 100 50 caH caR 1 2 = 0 := by decide +kernel
theorem b24 : apartR 2 100 50 caH caR 19 28 17 25 = [] ∧ ask2 2 100 50 caH caR 19 28 17 25 = 0 := by decide +kernel
end Go.Proofs.YtekkpcpbnonkaaaGreatDoor.Sc

namespace Go.Proofs.YtekkpcpbnonkaaaGreatDoor.Sc
open Go
def ltL (a b : List Int) : Prop := a.length < b.length ∨ a.length = b.length ∧ cmpL a b < 0
instance (a b : List Int) : Decidable (ltL a b) := inferInstanceAs (Decidable (_ ∨ _))
section
variable {n : Nat}
variable {kind base : Int} {hs : List Int} {l : List (Int × Int)} {T : List Int → Bool}
end
section
variable (kind base : Int) (hs : List Int) (l : List (Int × Int))
end
section
variable {kind base : Int} {hs : List Int} {l : List (Int × Int)}
end
section
variable (kind base most : Int) (hs : List Int) (rs : List (Int × Int)) (l : List (Int × Int))
end
section
variable {m k : Nat} {b : List Int} {n : Int}
end
section
variable {kind base most : Int} {hs : List Int} {rs : List (Int × Int)} {l : List (Int × Int)} {pts : List Int} {i k : Nat}
end
end Go.Proofs.YtekkpcpbnonkaaaGreatDoor.Sc
end
section
set_option linter.unusedSimpArgs false
set_option linter.unusedVariables false
namespace Go.Proofs.YtekkpcpbnonkaaaGreatDoor.Sc
open Go.RowKit Go
open Go.K (setd setn ev nth over cl eI eP eT setM setF)
attribute [local irreducible] K.blk K.row
theorem bs1 (a : Int) : K.Bs Tryz.prog 28 1 [(0, .int .i64 a)] 3 [.int .i64 a] := fun w => by kernel_rfl
theorem bs2 (a b : Int) : K.Bs Tryz.prog 28 2 [(0, .int .i64 a), (1, .int .i64 b)] 3 [.int .i64 a, .int .i64 b] := fun w => by kernel_rfl
theorem bl27 (a b : Int) : K.Bl Tryz.prog 42 [(0, .int .i64 a), (1, .int .i64 b)] (.agg #[.int .i64 a, .int .i64 b]) := fun w => by kernel_rfl
theorem bl51 (a b : Int) : K.Bl Tryz.prog 59 [(0, .int .i64 a), (1, .int .i64 b)] (.agg #[.int .i64 a, .int .i64 b]) := fun w => by kernel_rfl
theorem bl53 (p a b : Int) : K.Bl Tryz.prog 61 [(0, .int .i64 p), (1, .agg #[.int .i64 a, .int .i64 b])] (.agg #[.int .i64 p, .int .i64 a, .int .i64 b]) := fun w => by kernel_rfl

set_option maxRecDepth 100000 in
theorem c57 {n a b : Int} (w : World) :
    Calls Tryz.prog 43 [.int .i64 n, .int .i64 a, .int .i64 b].toArray w (K.Gives (.bool (decide (a ≤ n ∧ n ≤ b))) w) := by
  refine K.enter (args := [.int .i64 n, .int .i64 a, .int .i64 b]) Tryz.func43 rfl (n := 12) rfl ?_
  simp only [List.replicate, List.cons_append, List.nil_append]
  refine K.seq ?_
  refine K.region_lit ?_
  refine K.seq_pure (K.assign) rfl ?_
  refine Rv.zn ?_
  refine K.seq_nil ?_
  refine K.norm_then ?_
  refine K.seq ?_
  refine K.region_lit ?_
  refine K.seq_pure (K.move) rfl ?_
  refine Rv.zn ?_
  refine K.seq_pure (K.move) rfl ?_
  refine Rv.zn ?_
  refine K.seq_pure (K.geq rfl rfl) rfl ?_
  refine Rv.zn ?_
  refine K.seq_pure (K.move) rfl ?_
  refine Rv.zn ?_
  refine K.split 10 rfl (fun hg10 => ?_) (fun hg10 => ?_)
  · try replace hg10 := of_decide_eq_true hg10
    refine K.seq_pure (K.move) rfl ?_
    refine Rv.zn ?_
    refine K.seq_pure (K.move) rfl ?_
    refine Rv.zn ?_
    refine K.seq_pure (K.leq rfl rfl) rfl ?_
    refine Rv.zn ?_
    refine K.seq_pure (K.pick_t rfl) rfl ?_
    refine Rv.zn ?_
    refine K.seq_pure (K.assign) rfl ?_
    refine Rv.zn ?_
    refine K.seq_nil ?_
    refine K.norm_then ?_
    refine K.ret ?_
    refine K.end_ret (fun w _ => K.res_tmp rfl w) ?_
    exact K.gives_b rfl (by rw [eq_comm, decide_eq_decide.2 (by omega : (a ≤ n ∧ n ≤ b) ↔ n ≤ b)])
  try replace hg10 := of_decide_eq_false hg10
  refine K.seq_skip ?_ ?_
  · rfl
  try dsimp only [setd, setn, ev, nth, over, cl, eI, eP, eT, List.map, List.append, List.drop, List.take]
  refine K.seq_skip ?_ ?_
  · rfl
  try dsimp only [setd, setn, ev, nth, over, cl, eI, eP, eT, List.map, List.append, List.drop, List.take]
  refine K.seq_skip ?_ ?_
  · rfl
  try dsimp only [setd, setn, ev, nth, over, cl, eI, eP, eT, List.map, List.append, List.drop, List.take]
  refine K.seq_pure (K.pick_f rfl) rfl ?_
  refine Rv.zn ?_
  refine K.seq_pure (K.assign) rfl ?_
  refine Rv.zn ?_
  refine K.seq_nil ?_
  refine K.norm_then ?_
  refine K.ret ?_
  refine K.end_ret (fun w _ => K.res_tmp rfl w) ?_
  exact K.gives_b rfl (by rw [eq_comm, decide_eq_false_iff_not]; omega)


set_option maxRecDepth 100000 in
theorem c84 {n lo hi : Int} {p q : Addr} {w : World} (hp : w.cell? p = some (.int .i64 lo)) (hq : w.cell? q = some (.int .i64 hi)) :
    Calls Tryz.prog 84 [.int .i64 n, .pointer (some p), .pointer (some q)].toArray w (K.Gives (.bool (decide (n < lo) || decide (n > hi))) w) := by
  refine K.enter (args := [.int .i64 n, .pointer (some p), .pointer (some q)]) Tryz.func84 rfl (n := 10) rfl ?_
  simp only [List.replicate, List.cons_append, List.nil_append]
  refine K.seq ?_
  refine K.region_lit ?_
  refine K.seq_pure (K.assign) rfl ?_
  refine Rv.zn ?_
  refine K.seq_nil ?_
  refine K.norm_then ?_
  refine K.seq ?_
  refine K.region_lit ?_
  refine K.seq_pure (K.move) rfl ?_
  refine Rv.zn ?_
  refine K.seq_sil (K.load1 one_3 rfl ((K.PtrL.cell1 hp).any)) rfl ?_
  try dsimp only [setd, setn, ev, nth, over, cl, eI, eP, eT, List.map, List.append, List.drop, List.take]
  refine K.seq_pure (K.lss rfl rfl) rfl ?_
  refine Rv.zn ?_
  refine K.seq_pure (K.move) rfl ?_
  refine Rv.zn ?_
  refine K.split 8 rfl (fun hg8 => ?_) (fun hg8 => ?_)
  · try replace hg8 := of_decide_eq_true hg8
    refine K.seq_skip ?_ ?_
    · rfl
    try dsimp only [setd, setn, ev, nth, over, cl, eI, eP, eT, List.map, List.append, List.drop, List.take]
    refine K.seq_skip ?_ ?_
    · rfl
    try dsimp only [setd, setn, ev, nth, over, cl, eI, eP, eT, List.map, List.append, List.drop, List.take]
    refine K.seq_skip ?_ ?_
    · rfl
    try dsimp only [setd, setn, ev, nth, over, cl, eI, eP, eT, List.map, List.append, List.drop, List.take]
    refine K.seq_pure (K.pick_t rfl) rfl ?_
    refine Rv.zn ?_
    refine K.seq_pure (K.assign) rfl ?_
    refine Rv.zn ?_
    refine K.seq_nil ?_
    refine K.norm_then ?_
    refine K.ret ?_
    refine K.end_ret (fun w _ => K.res_tmp rfl w) ?_
    exact K.gives_b rfl (by simp [hg8])
  try replace hg8 := of_decide_eq_false hg8
  refine K.seq_pure (K.move) rfl ?_
  refine Rv.zn ?_
  refine K.seq_sil (K.load1 one_3 rfl ((K.PtrL.cell1 hq).any)) rfl ?_
  try dsimp only [setd, setn, ev, nth, over, cl, eI, eP, eT, List.map, List.append, List.drop, List.take]
  refine K.seq_pure (K.gtr rfl rfl) rfl ?_
  refine Rv.zn ?_
  refine K.seq_pure (K.pick_f rfl) rfl ?_
  refine Rv.zn ?_
  refine K.seq_pure (K.assign) rfl ?_
  refine Rv.zn ?_
  refine K.seq_nil ?_
  refine K.norm_then ?_
  refine K.ret ?_
  refine K.end_ret (fun w _ => K.res_tmp rfl w) ?_
  exact K.gives_b rfl (by simp [hg8])

set_option maxRecDepth 100000 in
theorem c97 {A : Option Addr} {c f : Nat} {cap : List Value} {xs : List Int} {p : Int → Bool} {w : World} (hR : K.Rd w A 1 K.eI xs) (hn : xs.length ≤ 4611686018427387904) (hcal : K.callable Tryz.prog f = true) (hf : ∀ x ∈ xs, ∀ w1, Below w.heap.size w w1 → Calls Tryz.prog f ([Value.int .i64 x] ++ cap).toArray w1 (K.Gives (.bool (p x)) w1)) :
    Calls Tryz.prog 98 [.slice A xs.length c, .func (.func f) #[] cap.toArray].toArray w (K.Gives (.int .i64 (K.idx p xs)) w) := by
  refine K.enter (args := [.slice A xs.length c, .func (.func f) #[] cap.toArray]) Tryz.func98 rfl (n := 17) rfl ?_
  simp only [List.replicate, List.cons_append, List.nil_append]
  refine K.seq ?_
  refine K.region_lit ?_
  refine K.seq_pure (K.assign) rfl ?_
  refine Rv.zn ?_
  refine K.seq_nil ?_
  refine K.norm_then ?_
  refine K.seq ?_
  refine K.seq ?_
  refine K.region_lit ?_
  refine K.seq_pure (K.move) rfl ?_
  refine Rv.zn ?_
  refine K.seq_pure (K.len_sl sl_28 rfl) rfl ?_
  refine Rv.zn ?_
  refine K.seq_pure (K.move) rfl ?_
  refine Rv.zn ?_
  refine K.seq_nil ?_
  refine K.norm_then ?_
  refine K.block ?_
  refine K.loopW [8] [4, 5, 9, 10, 11, 12, 13, 14, 15, 16, 17, 18] (fun vi L => ∃ k : Nat, vi = [.int .i64 (k : Int)] ∧ L = [] ∧ k ≤ xs.length ∧ ∀ j, j < k → p (xs.getD j default) = false) (fun vi => xs.length - (intOf (K.nth vi 0)).toNat) ?_ ?_
  · exact ⟨0, rfl, rfl, Nat.zero_le _, fun j hj => absurd hj (Nat.not_lt_zero j)⟩
  intro vi vr L hJ
  obtain ⟨k, rfl, rfl, hkn, hall⟩ := hJ
  try dsimp only [setd, setn, ev, nth, over, cl, eI, eP, eT, setM, setF, List.map, List.append, List.drop, List.take]
  refine K.seq ?_
  refine K.region_lit ?_
  refine K.seq_pure (K.lss rfl rfl) rfl ?_
  refine Rv.zn ?_
  refine K.seq_nil ?_
  refine K.norm_then ?_
  refine K.seq ?_
  refine K.cond rfl (fun ht9 => ?_) (fun ht9 => ?_)
  · try replace ht9 := of_decide_eq_true ht9
    have hk : k < xs.length := by omega
    refine K.skip ?_
    refine K.norm_then ?_
    refine K.seq ?_
    refine K.block ?_
    refine K.seq ?_
    refine K.region_lit ?_
    refine K.seq_pure (K.move) rfl ?_
    refine Rv.zn ?_
    refine K.seq_pure (K.assign) rfl ?_
    refine Rv.zn ?_
    refine K.seq_nil ?_
    refine K.norm_then ?_
    refine K.seq ?_
    refine K.region_lit ?_
    refine K.seq_pure (K.move) rfl ?_
    refine Rv.zn ?_
    refine K.seq_pure (K.move) rfl ?_
    refine Rv.zn ?_
    refine K.seq_pure (K.move) rfl ?_
    refine Rv.zn ?_
    refine K.seq_ix (M := []) _ hR.sl sl_28 rfl rfl rfl (by omega) rfl ?_
    intro p14 hp14
    try dsimp only [setd, setn, ev, nth, over, cl, eI, eP, eT, List.map, List.append, List.drop, List.take]
    refine K.seq_sil (K.load1 one_3 rfl (hp14.any)) rfl ?_
    try dsimp only [setd, setn, ev, nth, over, cl, eI, eP, eT, List.map, List.append, List.drop, List.take]
    refine K.seq_call (K.callv_g (first := []) (cap := cap) rfl hcal (fun F w1 _ hw => hf _ (K.gt_mem hk) w1 hw.1)) rfl ?_
    try dsimp only [setd, setn, ev, nth, over, cl, eI, eP, eT, List.map, List.append, List.drop, List.take]
    refine K.seq_nil ?_
    refine K.norm_then ?_
    refine K.cond rfl (fun ht16 => ?_) (fun ht16 => ?_)
    · try replace ht16 := of_decide_eq_true ht16
      refine K.seq ?_
      refine K.region_lit ?_
      refine K.seq_pure (K.move) rfl ?_
      refine Rv.zn ?_
      refine K.seq_pure (K.assign) rfl ?_
      refine Rv.zn ?_
      refine K.seq_nil ?_
      refine K.norm_then ?_
      refine K.ret ?_
      refine K.ret_block ?_
      refine K.ret_then ?_
      refine K.ret_then ?_
      refine K.ret_block ?_
      refine K.ret_then ?_
      refine K.end_ret (fun w _ => K.res_tmp rfl w) ?_
      exact K.gives_i rfl (K.idx_found hk hall ht16).symm
    try replace ht16 := of_decide_eq_false ht16
    refine K.skip ?_
    refine K.norm_block ?_
    refine K.norm_then ?_
    refine K.region_lit ?_
    refine K.seq_pure (K.add_i64 rfl rfl (by omega)) rfl ?_
    refine Rv.zn ?_
    refine K.seq_pure (K.move) rfl ?_
    refine Rv.zn ?_
    refine K.seq_nil ?_
    exact K.round_endW [.int .i64 ((k : Int) + 1)] ⟨k + 1, rfl, rfl, by omega, K.lt_succ_case hall ht16⟩ (by simp [K.nth, intOf]; omega) (List.Sublist.refl _) (by kernel_rfl)
  try replace ht9 := of_decide_eq_false ht9
  refine K.exit ?_
  refine K.exit_then ?_
  refine K.exit_then ?_
  refine K.exit_here ?_
  refine K.norm_then ?_
  refine K.seq ?_
  refine K.region_lit ?_
  refine K.seq_pure (K.assign) rfl ?_
  refine Rv.zn ?_
  refine K.seq_nil ?_
  refine K.norm_then ?_
  refine K.ret ?_
  refine K.end_ret (fun w _ => K.res_tmp rfl w) ?_
  exact K.gives_i rfl (K.idx_none (fun j hj => hall j (by omega))).symm

set_option maxRecDepth 100000 in
theorem c83 {A : Option Addr} {c f : Nat} {cap : List Value} {xs : List Int} {p : Int → Bool} {w : World} (hR : K.Rd w A 1 K.eI xs) (hn : xs.length ≤ 4611686018427387904) (hcal : K.callable Tryz.prog f = true) (hf : ∀ x ∈ xs, ∀ w1, Below w.heap.size w w1 → Calls Tryz.prog f ([Value.int .i64 x] ++ cap).toArray w1 (K.Gives (.bool (p x)) w1)) :
    Calls Tryz.prog 71 [.slice A xs.length c, .func (.func f) #[] cap.toArray].toArray w (K.Gives (.bool (xs.any p)) w) := by
  refine K.enter (args := [.slice A xs.length c, .func (.func f) #[] cap.toArray]) Tryz.func71 rfl (n := 7) rfl ?_
  simp only [List.replicate, List.cons_append, List.nil_append]
  refine K.seq ?_
  refine K.region_lit ?_
  refine K.seq_pure (K.assign) rfl ?_
  refine Rv.zn ?_
  refine K.seq_nil ?_
  refine K.norm_then ?_
  refine K.seq ?_
  refine K.region_lit ?_
  refine K.seq_pure (K.move) rfl ?_
  refine Rv.zn ?_
  refine K.seq_pure (K.move) rfl ?_
  refine Rv.zn ?_
  refine K.seq_call (K.call_g cal_98 (fun F w hF hw => c97 (p := p) (cap := cap) (hR.pass hw) hn hcal (fun x hx w1 hb => hf x hx w1 (hw.1.trans (hb.mono hw.1.size))))) rfl ?_
  try dsimp only [setd, setn, ev, nth, over, cl, eI, eP, eT, List.map, List.append, List.drop, List.take]
  refine K.seq_pure (K.geq rfl rfl) rfl ?_
  refine Rv.zn ?_
  refine K.seq_pure (K.assign) rfl ?_
  refine Rv.zn ?_
  refine K.seq_nil ?_
  refine K.norm_then ?_
  refine K.ret ?_
  refine K.end_ret (fun w _ => K.res_tmp rfl w) ?_
  exact K.gives_b rfl K.idx_ge

set_option maxRecDepth 100000 in
theorem c52 {lo hi : Int} {A : Option Addr} {c : Nat} {xs : List Int} {w : World} (hR : K.Rd w A 1 K.eI xs) (hn : xs.length ≤ 4611686018427387904) :
    Calls Tryz.prog 53 [.int .i64 lo, .int .i64 hi, .slice A xs.length c].toArray w (K.Gives (.bool (outB lo hi xs)) w) := by
  refine K.enter (args := [.int .i64 lo, .int .i64 hi, .slice A xs.length c]) Tryz.func53 rfl (n := 7) rfl ?_
  simp only [List.replicate, List.cons_append, List.nil_append]
  refine K.seq ?_
  refine K.region_lit ?_
  refine K.seq_new (K.box) rfl ?_
  intro b3
  try dsimp only [setd, setn, ev, nth, over, cl, eI, eP, eT, List.map, List.append, List.drop, List.take]
  refine K.seq_new (K.box) rfl ?_
  intro b4
  try dsimp only [setd, setn, ev, nth, over, cl, eI, eP, eT, List.map, List.append, List.drop, List.take]
  refine K.seq_pure (K.assign) rfl ?_
  refine Rv.zn ?_
  refine K.seq_nil ?_
  refine K.norm_then ?_
  refine K.seq ?_
  refine K.region_lit ?_
  refine K.seq_pure (K.move) rfl ?_
  refine Rv.zn ?_
  refine K.seq_pure (K.mkFunc) rfl ?_
  try dsimp only [setd, setn, ev, nth, over, cl, eI, eP, eT, List.map, List.append, List.drop, List.take]
  refine K.seq_call (K.call_g cal_71 (fun F w hF hw => c83 (cap := [.pointer (some ⟨b3, 0, none⟩), .pointer (some ⟨b4, 0, none⟩)]) (hR.pass hw) hn cal_84 (fun x _ w1 hb => c84 (K.cell_later hw (hF _ (K.m1)) rfl hb) (K.cell_later hw (hF _ (K.m0)) rfl hb)))) rfl ?_
  try dsimp only [setd, setn, ev, nth, over, cl, eI, eP, eT, List.map, List.append, List.drop, List.take]
  refine K.seq_pure (K.assign) rfl ?_
  refine Rv.zn ?_
  refine K.seq_nil ?_
  refine K.norm_then ?_
  refine K.ret ?_
  refine K.end_ret (fun w _ => K.res_tmp rfl w) ?_
  exact K.gives rfl

set_option maxRecDepth 100000 in
theorem c99 {n b : Int} (h0 : 0 ≤ n) (h9 : n ≤ 1000000000) (h1 : 1 ≤ b) (h2 : b ≤ 1000) (w : World) :
    Calls Tryz.prog 111 [.int .i64 n, .int .i64 b].toArray w (K.Gives (.int .i64 (rndS 1 n b)) w) := by
  refine K.enter (args := [.int .i64 n, .int .i64 b]) Tryz.func111 rfl (n := 6) rfl ?_
  simp only [List.replicate, List.cons_append, List.nil_append]
  refine K.seq ?_
  refine K.region_lit ?_
  refine K.seq_pure (K.assign) rfl ?_
  refine Rv.zn ?_
  refine K.seq_nil ?_
  refine K.norm_then ?_
  refine K.seq ?_
  refine K.region_lit ?_
  refine K.seq_pure (K.move) rfl ?_
  refine Rv.zn ?_
  refine K.seq_pure (K.move) rfl ?_
  refine Rv.zn ?_
  refine K.seq_pure (K.quo_i64 rfl rfl (by omega) (by omega) (by omega)) rfl ?_
  refine Rv.zn ?_
  refine K.seq_pure (K.assign) rfl ?_
  refine Rv.zn ?_
  refine K.seq_nil ?_
  refine K.norm_then ?_
  refine K.ret ?_
  refine K.end_ret (fun w _ => K.res_tmp rfl w) ?_
  exact K.gives_i rfl rfl

set_option maxRecDepth 100000 in
theorem c100 {n b : Int} (h0 : 0 ≤ n) (h9 : n ≤ 1000000000) (h1 : 1 ≤ b) (h2 : b ≤ 1000) (w : World) :
    Calls Tryz.prog 112 [.int .i64 n, .int .i64 b].toArray w (K.Gives (.int .i64 (rndS 2 n b)) w) := by
  refine K.enter (args := [.int .i64 n, .int .i64 b]) Tryz.func112 rfl (n := 10) rfl ?_
  simp only [List.replicate, List.cons_append, List.nil_append]
  refine K.seq ?_
  refine K.region_lit ?_
  refine K.seq_pure (K.assign) rfl ?_
  refine Rv.zn ?_
  refine K.seq_nil ?_
  refine K.norm_then ?_
  refine K.seq ?_
  refine K.region_lit ?_
  refine K.seq_pure (K.move) rfl ?_
  refine Rv.zn ?_
  refine K.seq_pure (K.mul_i64 rfl rfl (by omega)) rfl ?_
  refine Rv.zn ?_
  refine K.seq_pure (K.move) rfl ?_
  refine Rv.zn ?_
  refine K.seq_pure (K.add_i64 rfl rfl (by omega)) rfl ?_
  refine Rv.zn ?_
  refine K.seq_pure (K.move) rfl ?_
  refine Rv.zn ?_
  refine K.seq_pure (K.mul_i64 rfl rfl (by omega)) rfl ?_
  refine Rv.zn ?_
  refine K.seq_pure (K.quo_i64 rfl rfl (by omega) (by omega) (by omega)) rfl ?_
  refine Rv.zn ?_
  refine K.seq_pure (K.assign) rfl ?_
  refine Rv.zn ?_
  refine K.seq_nil ?_
  refine K.norm_then ?_
  refine K.ret ?_
  refine K.end_ret (fun w _ => K.res_tmp rfl w) ?_
  exact K.gives_i rfl rfl

set_option maxRecDepth 100000 in
theorem c101 {n b : Int} (h0 : 0 ≤ n) (h9 : n ≤ 1000000000) (h1 : 1 ≤ b) (h2 : b ≤ 1000) (w : World) :
    Calls Tryz.prog 113 [.int .i64 n, .int .i64 b].toArray w (K.Gives (.int .i64 (rndS 3 n b)) w) := by
  refine K.enter (args := [.int .i64 n, .int .i64 b]) Tryz.func113 rfl (n := 9) rfl ?_
  simp only [List.replicate, List.cons_append, List.nil_append]
  refine K.seq ?_
  refine K.region_lit ?_
  refine K.seq_pure (K.assign) rfl ?_
  refine Rv.zn ?_
  refine K.seq_nil ?_
  refine K.norm_then ?_
  refine K.seq ?_
  refine K.region_lit ?_
  refine K.seq_pure (K.move) rfl ?_
  refine Rv.zn ?_
  refine K.seq_pure (K.move) rfl ?_
  refine Rv.zn ?_
  refine K.seq_pure (K.add_i64 rfl rfl (by omega)) rfl ?_
  refine Rv.zn ?_
  refine K.seq_pure (K.sub_i64 rfl rfl (by omega)) rfl ?_
  refine Rv.zn ?_
  refine K.seq_pure (K.move) rfl ?_
  refine Rv.zn ?_
  refine K.seq_pure (K.quo_i64 rfl rfl (by omega) (by omega) (by omega)) rfl ?_
  refine Rv.zn ?_
  refine K.seq_pure (K.assign) rfl ?_
  refine Rv.zn ?_
  refine K.seq_nil ?_
  refine K.norm_then ?_
  refine K.ret ?_
  refine K.end_ret (fun w _ => K.res_tmp rfl w) ?_
  exact K.gives_i rfl rfl

set_option maxRecDepth 100000 in
theorem c37 {a b : Int} (w : World) :
    Calls Tryz.prog 19 [.int .i64 a, .int .i64 b].toArray w (K.Gives (.agg #[.int .i64 a, .int .i64 b]) w) := by
  refine K.enter (args := [.int .i64 a, .int .i64 b]) Tryz.func19 rfl (n := 6) rfl ?_
  simp only [List.replicate, List.cons_append, List.nil_append]
  refine K.seq ?_
  refine K.region_lit ?_
  refine K.seq_new (K.alloc zr_42) rfl ?_
  intro b4
  try dsimp only [setd, setn, ev, nth, over, cl, eI, eP, eT, List.map, List.append, List.drop, List.take]
  refine K.seq_nil ?_
  refine K.norm_then ?_
  refine K.seq ?_
  refine K.region_lit ?_
  refine K.seq_pure (K.move) rfl ?_
  refine Rv.zn ?_
  refine K.seq_pure (K.move) rfl ?_
  refine Rv.zn ?_
  refine K.seq_pure (K.build (bl27 _ _)) rfl ?_
  try dsimp only [setd, setn, ev, nth, over, cl, eI, eP, eT, List.map, List.append, List.drop, List.take]
  refine K.seq_st (K.store_all sz_42 rfl rfl rfl rfl (K.rp0)) rfl ?_
  try dsimp only [setd, setn, ev, nth, over, cl, eI, eP, eT, List.map, List.append, List.drop, List.take]
  refine K.seq_nil ?_
  refine K.norm_then ?_
  refine K.ret ?_
  refine K.end_ret (fun w hw => K.res_c rfl rfl (K.run_cellA ag_42 rfl (List.Mem.head _) rfl w hw)) ?_
  exact K.gives rfl

set_option maxRecDepth 100000 in
theorem c79 {a b : Int} (w : World) :
    Calls Tryz.prog 59 [.int .i64 a, .int .i64 b].toArray w (K.Gives (.agg #[.int .i64 a, .int .i64 b]) w) := by
  refine K.enter (args := [.int .i64 a, .int .i64 b]) Tryz.func59 rfl (n := 6) rfl ?_
  simp only [List.replicate, List.cons_append, List.nil_append]
  refine K.seq ?_
  refine K.region_lit ?_
  refine K.seq_new (K.alloc zr_59) rfl ?_
  intro b4
  try dsimp only [setd, setn, ev, nth, over, cl, eI, eP, eT, List.map, List.append, List.drop, List.take]
  refine K.seq_nil ?_
  refine K.norm_then ?_
  refine K.seq ?_
  refine K.region_lit ?_
  refine K.seq_pure (K.move) rfl ?_
  refine Rv.zn ?_
  refine K.seq_pure (K.move) rfl ?_
  refine Rv.zn ?_
  refine K.seq_pure (K.build (bl51 _ _)) rfl ?_
  try dsimp only [setd, setn, ev, nth, over, cl, eI, eP, eT, List.map, List.append, List.drop, List.take]
  refine K.seq_st (K.store_all sz_59 rfl rfl rfl rfl (K.rp0)) rfl ?_
  try dsimp only [setd, setn, ev, nth, over, cl, eI, eP, eT, List.map, List.append, List.drop, List.take]
  refine K.seq_nil ?_
  refine K.norm_then ?_
  refine K.ret ?_
  refine K.end_ret (fun w hw => K.res_c rfl rfl (K.run_cellA ag_59 rfl (List.Mem.head _) rfl w hw)) ?_
  exact K.gives rfl

set_option maxRecDepth 100000 in
theorem c38 {p a b : Int} (w : World) :
    Calls Tryz.prog 25 [.int .i64 p, .int .i64 a, .int .i64 b].toArray w (K.Gives (.agg #[.int .i64 p, .int .i64 a, .int .i64 b]) w) := by
  refine K.enter (args := [.int .i64 p, .int .i64 a, .int .i64 b]) Tryz.func25 rfl (n := 9) rfl ?_
  simp only [List.replicate, List.cons_append, List.nil_append]
  refine K.seq ?_
  refine K.region_lit ?_
  refine K.seq_new (K.alloc zr_61) rfl ?_
  intro b6
  try dsimp only [setd, setn, ev, nth, over, cl, eI, eP, eT, List.map, List.append, List.drop, List.take]
  refine K.seq_nil ?_
  refine K.norm_then ?_
  refine K.seq ?_
  refine K.region_lit ?_
  refine K.seq_pure (K.move) rfl ?_
  refine Rv.zn ?_
  refine K.seq_pure (K.move) rfl ?_
  refine Rv.zn ?_
  refine K.seq_pure (K.move) rfl ?_
  refine Rv.zn ?_
  refine K.seq_call (K.call_g cal_59 (fun F w hF hw => c79 w)) rfl ?_
  try dsimp only [setd, setn, ev, nth, over, cl, eI, eP, eT, List.map, List.append, List.drop, List.take]
  refine K.seq_pure (K.build (bl53 _ _ _)) rfl ?_
  try dsimp only [setd, setn, ev, nth, over, cl, eI, eP, eT, List.map, List.append, List.drop, List.take]
  refine K.seq_st (K.store_all sz_61 rfl rfl rfl rfl (K.rp0)) rfl ?_
  try dsimp only [setd, setn, ev, nth, over, cl, eI, eP, eT, List.map, List.append, List.drop, List.take]
  refine K.seq_nil ?_
  refine K.norm_then ?_
  refine K.ret ?_
  refine K.end_ret (fun w hw => K.res_c rfl rfl (K.run_cellA ag_61 rfl (List.Mem.head _) rfl w hw)) ?_
  exact K.gives rfl

end Go.Proofs.YtekkpcpbnonkaaaGreatDoor.Sc
end
section
set_option linter.unusedSimpArgs false
set_option linter.unusedVariables false
namespace Go.Proofs.YtekkpcpbnonkaaaGreatDoor.Sc
open Go.RowKit Go
open Go.K (setd setn ev nth over cl eI eP eT setM setF)
attribute [local irreducible] K.blk K.row
theorem c52_1 {lo hi x : Int} {w0 w : World} {F : List K.Chunk} {b : Nat} (hw : K.St w0 F w) (hm : K.blk b 3 [.int .i64 x] ∈ F) :
    Calls Tryz.prog 53 [.int .i64 lo, .int .i64 hi, .slice (some ⟨b, 0, none⟩) 1 1].toArray w (K.Gives (.bool (decide (¬ (lo ≤ x ∧ x ≤ hi)))) w) := by
  have h := c52 (lo := lo) (hi := hi) (c := 1) (xs := [x]) (K.Rd.lit hw hm (fun _ => rfl) (by decide) rfl) (by simp)
  have e : outB lo hi [x] = decide (¬ (lo ≤ x ∧ x ≤ hi)) := by
    rw [Bool.eq_iff_iff]; simp [outB]
    try omega
  rw [e] at h
  exact h
theorem c52_2 {lo hi x y : Int} {w0 w : World} {F : List K.Chunk} {b : Nat} (hw : K.St w0 F w) (hm : K.blk b 3 [.int .i64 x, .int .i64 y] ∈ F) :
    Calls Tryz.prog 53 [.int .i64 lo, .int .i64 hi, .slice (some ⟨b, 0, none⟩) 2 2].toArray w (K.Gives (.bool (decide (¬ ((lo ≤ x ∧ x ≤ hi) ∧ (lo ≤ y ∧ y ≤ hi))))) w) := by
  have h := c52 (lo := lo) (hi := hi) (c := 2) (xs := [x, y]) (K.Rd.lit hw hm (fun _ => rfl) (by decide) rfl) (by simp)
  have e : outB lo hi [x, y] = decide (¬ ((lo ≤ x ∧ x ≤ hi) ∧ (lo ≤ y ∧ y ≤ hi))) := by
    rw [Bool.eq_iff_iff]; simp [outB]; omega
  rw [e] at h
  exact h

set_option maxRecDepth 100000 in
theorem c53 {A : Option Addr} {c f : Nat} {cap : List Value} {xs : List Int} {q : Int → Int} {w : World} (hR : K.Rd w A 1 K.eI xs) (hn : xs.length ≤ 4611686018427387904) (hcal : K.callable Tryz.prog f = true) (hf : ∀ x ∈ xs, ∀ w1, Below w.heap.size w w1 → Calls Tryz.prog f ([Value.int .i64 x] ++ cap).toArray w1 (K.Gives (.int .i64 (q x)) w1)) :
    Calls Tryz.prog 88 [.slice A xs.length c, .func (.func f) #[] cap.toArray].toArray w (K.Gives (K.tup2 (K.fst q xs)) w) := by
  refine K.enter (args := [.slice A xs.length c, .func (.func f) #[] cap.toArray]) Tryz.func88 rfl (n := 22) rfl ?_
  simp only [List.replicate, List.cons_append, List.nil_append]
  refine K.seq ?_
  refine K.region_lit ?_
  refine K.seq_pure (K.assign) rfl ?_
  refine Rv.zn ?_
  refine K.seq_pure (K.assign) rfl ?_
  refine Rv.zn ?_
  refine K.seq_nil ?_
  refine K.norm_then ?_
  refine K.seq ?_
  refine K.seq ?_
  refine K.region_lit ?_
  refine K.seq_pure (K.move) rfl ?_
  refine Rv.zn ?_
  refine K.seq_pure (K.len_sl sl_28 rfl) rfl ?_
  refine Rv.zn ?_
  refine K.seq_pure (K.move) rfl ?_
  refine Rv.zn ?_
  refine K.seq_nil ?_
  refine K.norm_then ?_
  refine K.block ?_
  refine K.loopW [11] [4, 5, 6, 7, 8, 12, 13, 14, 15, 16, 17, 18, 19, 20, 21, 22, 23] (fun vi L => ∃ k : Nat, vi = [.int .i64 (k : Int)] ∧ L = [] ∧ k ≤ xs.length ∧ ∀ j, j < k → q (xs.getD j default) = 0) (fun vi => xs.length - (intOf (K.nth vi 0)).toNat) ?_ ?_
  · exact ⟨0, rfl, rfl, Nat.zero_le _, fun j hj => absurd hj (Nat.not_lt_zero j)⟩
  intro vi vr L hJ
  obtain ⟨k, rfl, rfl, hkn, hall⟩ := hJ
  try dsimp only [setd, setn, ev, nth, over, cl, eI, eP, eT, setM, setF, List.map, List.append, List.drop, List.take]
  refine K.seq ?_
  refine K.region_lit ?_
  refine K.seq_pure (K.lss rfl rfl) rfl ?_
  refine Rv.zn ?_
  refine K.seq_nil ?_
  refine K.norm_then ?_
  refine K.seq ?_
  refine K.cond rfl (fun ht12 => ?_) (fun ht12 => ?_)
  · try replace ht12 := of_decide_eq_true ht12
    have hk : k < xs.length := by omega
    refine K.skip ?_
    refine K.norm_then ?_
    refine K.seq ?_
    refine K.block ?_
    refine K.seq ?_
    refine K.region_lit ?_
    refine K.seq_pure (K.move) rfl ?_
    refine Rv.zn ?_
    refine K.seq_ix (M := []) _ hR.sl sl_28 rfl rfl rfl (by omega) rfl ?_
    intro p14 hp14
    try dsimp only [setd, setn, ev, nth, over, cl, eI, eP, eT, List.map, List.append, List.drop, List.take]
    refine K.seq_sil (K.load1 one_3 rfl (hp14.any)) rfl ?_
    try dsimp only [setd, setn, ev, nth, over, cl, eI, eP, eT, List.map, List.append, List.drop, List.take]
    refine K.seq_pure (K.assign) rfl ?_
    refine Rv.zn ?_
    refine K.seq_pure (K.assign) rfl ?_
    refine Rv.zn ?_
    refine K.seq_nil ?_
    refine K.norm_then ?_
    refine K.seq ?_
    refine K.region_lit ?_
    refine K.seq_pure (K.move) rfl ?_
    refine Rv.zn ?_
    refine K.seq_pure (K.move) rfl ?_
    refine Rv.zn ?_
    refine K.seq_call (K.callv_g (first := []) (cap := cap) rfl hcal (fun F w1 _ hw => hf _ (K.gt_mem hk) w1 hw.1)) rfl ?_
    try dsimp only [setd, setn, ev, nth, over, cl, eI, eP, eT, List.map, List.append, List.drop, List.take]
    refine K.seq_pure (K.assign) rfl ?_
    refine Rv.zn ?_
    refine K.seq_nil ?_
    refine K.norm_then ?_
    refine K.seq ?_
    refine K.region_lit ?_
    refine K.seq_pure (K.move) rfl ?_
    refine Rv.zn ?_
    refine K.seq_pure (K.neq rfl rfl) rfl ?_
    refine Rv.zn ?_
    refine K.seq_nil ?_
    refine K.norm_then ?_
    refine K.cond rfl (fun ht20 => ?_) (fun ht20 => ?_)
    · try replace ht20 := of_decide_eq_true ht20
      refine K.seq ?_
      refine K.region_lit ?_
      refine K.seq_pure (K.move) rfl ?_
      refine Rv.zn ?_
      refine K.seq_pure (K.move) rfl ?_
      refine Rv.zn ?_
      refine K.seq_pure (K.assign) rfl ?_
      refine Rv.zn ?_
      refine K.seq_pure (K.assign) rfl ?_
      refine Rv.zn ?_
      refine K.seq_nil ?_
      refine K.norm_then ?_
      refine K.ret ?_
      refine K.ret_block ?_
      refine K.ret_then ?_
      refine K.ret_then ?_
      refine K.ret_block ?_
      refine K.ret_then ?_
      refine K.end_ret (fun w _ => K.res_tmp2 rfl w) ?_
      exact K.gives (by rw [K.fst_found hk hall ht20]; rfl)
    try replace ht20 := of_decide_eq_false ht20
    have hz : q (xs.getD k default) = 0 := by omega
    refine K.skip ?_
    refine K.norm_block ?_
    refine K.norm_then ?_
    refine K.region_lit ?_
    refine K.seq_pure (K.add_i64 rfl rfl (by omega)) rfl ?_
    refine Rv.zn ?_
    refine K.seq_pure (K.move) rfl ?_
    refine Rv.zn ?_
    refine K.seq_nil ?_
    exact K.round_endW (L'' := []) [.int .i64 ((k : Int) + 1)] ⟨k + 1, rfl, rfl, by omega, K.lt_succ_case hall hz⟩ (by simp [K.nth, intOf]; omega) (List.nil_sublist _) (by kernel_rfl)
  try replace ht12 := of_decide_eq_false ht12
  refine K.exit ?_
  refine K.exit_then ?_
  refine K.exit_then ?_
  refine K.exit_here ?_
  refine K.norm_then ?_
  refine K.seq ?_
  refine K.region_lit ?_
  refine K.seq_pure (K.assign) rfl ?_
  refine Rv.zn ?_
  refine K.seq_pure (K.assign) rfl ?_
  refine Rv.zn ?_
  refine K.seq_nil ?_
  refine K.norm_then ?_
  refine K.ret ?_
  refine K.end_ret (fun w _ => K.res_tmp2 rfl w) ?_
  exact K.gives (by rw [K.fst_none (fun j hj => hall j (by omega))]; rfl)

set_option maxRecDepth 100000 in
theorem c55 {A : Option Addr} {c f : Nat} {cap : List Value} {xs : List (Int × Int)} {q : (Int × Int) → Int} {w : World} (hR : K.Rd w A 2 K.eP xs) (hn : xs.length ≤ 4611686018427387904) (hcal : K.callable Tryz.prog f = true) (hf : ∀ x ∈ xs, ∀ w1, Below w.heap.size w w1 → Calls Tryz.prog f ([Value.agg (K.eP x).toArray] ++ cap).toArray w1 (K.Gives (.int .i64 (q x)) w1)) :
    Calls Tryz.prog 90 [.slice A xs.length c, .func (.func f) #[] cap.toArray].toArray w (K.Gives (K.tup2 (K.fst q xs)) w) := by
  refine K.enter (args := [.slice A xs.length c, .func (.func f) #[] cap.toArray]) Tryz.func90 rfl (n := 22) rfl ?_
  simp only [List.replicate, List.cons_append, List.nil_append]
  refine K.seq ?_
  refine K.region_lit ?_
  refine K.seq_pure (K.assign) rfl ?_
  refine Rv.zn ?_
  refine K.seq_pure (K.assign) rfl ?_
  refine Rv.zn ?_
  refine K.seq_nil ?_
  refine K.norm_then ?_
  refine K.seq ?_
  refine K.seq ?_
  refine K.region_lit ?_
  refine K.seq_pure (K.move) rfl ?_
  refine Rv.zn ?_
  refine K.seq_pure (K.len_sl sl_36 rfl) rfl ?_
  refine Rv.zn ?_
  refine K.seq_pure (K.move) rfl ?_
  refine Rv.zn ?_
  refine K.seq_nil ?_
  refine K.norm_then ?_
  refine K.block ?_
  refine K.loopW [11] [4, 5, 6, 7, 8, 12, 13, 14, 15, 16, 17, 18, 19, 20, 21, 22, 23] (fun vi L => ∃ k : Nat, vi = [.int .i64 (k : Int)] ∧ L = [] ∧ k ≤ xs.length ∧ ∀ j, j < k → q (xs.getD j default) = 0) (fun vi => xs.length - (intOf (K.nth vi 0)).toNat) ?_ ?_
  · exact ⟨0, rfl, rfl, Nat.zero_le _, fun j hj => absurd hj (Nat.not_lt_zero j)⟩
  intro vi vr L hJ
  obtain ⟨k, rfl, rfl, hkn, hall⟩ := hJ
  try dsimp only [setd, setn, ev, nth, over, cl, eI, eP, eT, setM, setF, List.map, List.append, List.drop, List.take]
  refine K.seq ?_
  refine K.region_lit ?_
  refine K.seq_pure (K.lss rfl rfl) rfl ?_
  refine Rv.zn ?_
  refine K.seq_nil ?_
  refine K.norm_then ?_
  refine K.seq ?_
  refine K.cond rfl (fun ht12 => ?_) (fun ht12 => ?_)
  · try replace ht12 := of_decide_eq_true ht12
    have hk : k < xs.length := by omega
    refine K.skip ?_
    refine K.norm_then ?_
    refine K.seq ?_
    refine K.block ?_
    refine K.seq ?_
    refine K.region_lit ?_
    refine K.seq_pure (K.move) rfl ?_
    refine Rv.zn ?_
    refine K.seq_ix (M := []) _ hR.sl sl_36 rfl rfl rfl (by omega) rfl ?_
    intro p14 hp14
    try dsimp only [setd, setn, ev, nth, over, cl, eI, eP, eT, List.map, List.append, List.drop, List.take]
    refine K.seq_sil (K.loadA_p ag_94 rfl (hp14.any) rfl) rfl ?_
    try dsimp only [setd, setn, ev, nth, over, cl, eI, eP, eT, List.map, List.append, List.drop, List.take]
    refine K.seq_new (K.alloc zr_94) rfl ?_
    intro b7
    try dsimp only [setd, setn, ev, nth, over, cl, eI, eP, eT, List.map, List.append, List.drop, List.take]
    refine K.seq_pure (K.assign) rfl ?_
    refine Rv.zn ?_
    refine K.seq_st (K.store_all sz_94 rfl rfl rfl rfl (K.rp0)) rfl ?_
    try dsimp only [setd, setn, ev, nth, over, cl, eI, eP, eT, List.map, List.append, List.drop, List.take]
    refine K.seq_nil ?_
    refine K.norm_then ?_
    refine K.seq ?_
    refine K.region_lit ?_
    refine K.seq_pure (K.move) rfl ?_
    refine Rv.zn ?_
    refine K.seq_sil (K.loadA_own ag_94 rfl (K.m0) rfl) rfl ?_
    try dsimp only [setd, setn, ev, nth, over, cl, eI, eP, eT, List.map, List.append, List.drop, List.take]
    refine K.seq_call (K.callv_g (first := []) (cap := cap) rfl hcal (fun F w1 _ hw => hf _ (K.gt_mem hk) w1 hw.1)) rfl ?_
    try dsimp only [setd, setn, ev, nth, over, cl, eI, eP, eT, List.map, List.append, List.drop, List.take]
    refine K.seq_pure (K.assign) rfl ?_
    refine Rv.zn ?_
    refine K.seq_nil ?_
    refine K.norm_then ?_
    refine K.seq ?_
    refine K.region_lit ?_
    refine K.seq_pure (K.move) rfl ?_
    refine Rv.zn ?_
    refine K.seq_pure (K.neq rfl rfl) rfl ?_
    refine Rv.zn ?_
    refine K.seq_nil ?_
    refine K.norm_then ?_
    refine K.cond rfl (fun ht20 => ?_) (fun ht20 => ?_)
    · try replace ht20 := of_decide_eq_true ht20
      refine K.seq ?_
      refine K.region_lit ?_
      refine K.seq_pure (K.move) rfl ?_
      refine Rv.zn ?_
      refine K.seq_pure (K.move) rfl ?_
      refine Rv.zn ?_
      refine K.seq_pure (K.assign) rfl ?_
      refine Rv.zn ?_
      refine K.seq_pure (K.assign) rfl ?_
      refine Rv.zn ?_
      refine K.seq_nil ?_
      refine K.norm_then ?_
      refine K.ret ?_
      refine K.ret_block ?_
      refine K.ret_then ?_
      refine K.ret_then ?_
      refine K.ret_block ?_
      refine K.ret_then ?_
      refine K.end_ret (fun w _ => K.res_tmp2 rfl w) ?_
      exact K.gives (by rw [K.fst_found hk hall ht20]; rfl)
    try replace ht20 := of_decide_eq_false ht20
    have hz : q (xs.getD k default) = 0 := by omega
    refine K.skip ?_
    refine K.norm_block ?_
    refine K.norm_then ?_
    refine K.region_lit ?_
    refine K.seq_pure (K.add_i64 rfl rfl (by omega)) rfl ?_
    refine Rv.zn ?_
    refine K.seq_pure (K.move) rfl ?_
    refine Rv.zn ?_
    refine K.seq_nil ?_
    exact K.round_endW (L'' := []) [.int .i64 ((k : Int) + 1)] ⟨k + 1, rfl, rfl, by omega, K.lt_succ_case hall hz⟩ (by simp [K.nth, intOf]; omega) (List.nil_sublist _) (by kernel_rfl)
  try replace ht12 := of_decide_eq_false ht12
  refine K.exit ?_
  refine K.exit_then ?_
  refine K.exit_then ?_
  refine K.exit_here ?_
  refine K.norm_then ?_
  refine K.seq ?_
  refine K.region_lit ?_
  refine K.seq_pure (K.assign) rfl ?_
  refine Rv.zn ?_
  refine K.seq_pure (K.assign) rfl ?_
  refine Rv.zn ?_
  refine K.seq_nil ?_
  refine K.norm_then ?_
  refine K.ret ?_
  refine K.end_ret (fun w _ => K.res_tmp2 rfl w) ?_
  exact K.gives (by rw [K.fst_none (fun j hj => hall j (by omega))]; rfl)

set_option maxRecDepth 100000 in
theorem c85 {A : Option Addr} {c f : Nat} {cap : List Value} {xs : List (Int × Int)} {q : (Int × Int) → Int} {w : World} (hR : K.Rd w A 2 K.eP xs) (hn : xs.length ≤ 4611686018427387904) (hcal : K.callable Tryz.prog f = true) (hf : ∀ x ∈ xs, ∀ w1, Below w.heap.size w w1 → Calls Tryz.prog f ([Value.agg (K.eP x).toArray] ++ cap).toArray w1 (K.Gives (.int .i64 (q x)) w1)) :
    Calls Tryz.prog 79 [.slice A xs.length c, .func (.func f) #[] cap.toArray].toArray w (K.Gives (K.tup2 (K.fst q xs)) w) := by
  refine K.enter (args := [.slice A xs.length c, .func (.func f) #[] cap.toArray]) Tryz.func79 rfl (n := 22) rfl ?_
  simp only [List.replicate, List.cons_append, List.nil_append]
  refine K.seq ?_
  refine K.region_lit ?_
  refine K.seq_pure (K.assign) rfl ?_
  refine Rv.zn ?_
  refine K.seq_pure (K.assign) rfl ?_
  refine Rv.zn ?_
  refine K.seq_nil ?_
  refine K.norm_then ?_
  refine K.seq ?_
  refine K.seq ?_
  refine K.region_lit ?_
  refine K.seq_pure (K.move) rfl ?_
  refine Rv.zn ?_
  refine K.seq_pure (K.len_sl sl_55 rfl) rfl ?_
  refine Rv.zn ?_
  refine K.seq_pure (K.move) rfl ?_
  refine Rv.zn ?_
  refine K.seq_nil ?_
  refine K.norm_then ?_
  refine K.block ?_
  refine K.loopW [11] [4, 5, 6, 7, 8, 12, 13, 14, 15, 16, 17, 18, 19, 20, 21, 22, 23] (fun vi L => ∃ k : Nat, vi = [.int .i64 (k : Int)] ∧ L = [] ∧ k ≤ xs.length ∧ ∀ j, j < k → q (xs.getD j default) = 0) (fun vi => xs.length - (intOf (K.nth vi 0)).toNat) ?_ ?_
  · exact ⟨0, rfl, rfl, Nat.zero_le _, fun j hj => absurd hj (Nat.not_lt_zero j)⟩
  intro vi vr L hJ
  obtain ⟨k, rfl, rfl, hkn, hall⟩ := hJ
  try dsimp only [setd, setn, ev, nth, over, cl, eI, eP, eT, setM, setF, List.map, List.append, List.drop, List.take]
  refine K.seq ?_
  refine K.region_lit ?_
  refine K.seq_pure (K.lss rfl rfl) rfl ?_
  refine Rv.zn ?_
  refine K.seq_nil ?_
  refine K.norm_then ?_
  refine K.seq ?_
  refine K.cond rfl (fun ht12 => ?_) (fun ht12 => ?_)
  · try replace ht12 := of_decide_eq_true ht12
    have hk : k < xs.length := by omega
    refine K.skip ?_
    refine K.norm_then ?_
    refine K.seq ?_
    refine K.block ?_
    refine K.seq ?_
    refine K.region_lit ?_
    refine K.seq_pure (K.move) rfl ?_
    refine Rv.zn ?_
    refine K.seq_ix (M := []) _ hR.sl sl_55 rfl rfl rfl (by omega) rfl ?_
    intro p14 hp14
    try dsimp only [setd, setn, ev, nth, over, cl, eI, eP, eT, List.map, List.append, List.drop, List.take]
    refine K.seq_sil (K.loadA_p ag_42 rfl (hp14.any) rfl) rfl ?_
    try dsimp only [setd, setn, ev, nth, over, cl, eI, eP, eT, List.map, List.append, List.drop, List.take]
    refine K.seq_new (K.alloc zr_42) rfl ?_
    intro b7
    try dsimp only [setd, setn, ev, nth, over, cl, eI, eP, eT, List.map, List.append, List.drop, List.take]
    refine K.seq_pure (K.assign) rfl ?_
    refine Rv.zn ?_
    refine K.seq_st (K.store_all sz_42 rfl rfl rfl rfl (K.rp0)) rfl ?_
    try dsimp only [setd, setn, ev, nth, over, cl, eI, eP, eT, List.map, List.append, List.drop, List.take]
    refine K.seq_nil ?_
    refine K.norm_then ?_
    refine K.seq ?_
    refine K.region_lit ?_
    refine K.seq_pure (K.move) rfl ?_
    refine Rv.zn ?_
    refine K.seq_sil (K.loadA_own ag_42 rfl (K.m0) rfl) rfl ?_
    try dsimp only [setd, setn, ev, nth, over, cl, eI, eP, eT, List.map, List.append, List.drop, List.take]
    refine K.seq_call (K.callv_g (first := []) (cap := cap) rfl hcal (fun F w1 _ hw => hf _ (K.gt_mem hk) w1 hw.1)) rfl ?_
    try dsimp only [setd, setn, ev, nth, over, cl, eI, eP, eT, List.map, List.append, List.drop, List.take]
    refine K.seq_pure (K.assign) rfl ?_
    refine Rv.zn ?_
    refine K.seq_nil ?_
    refine K.norm_then ?_
    refine K.seq ?_
    refine K.region_lit ?_
    refine K.seq_pure (K.move) rfl ?_
    refine Rv.zn ?_
    refine K.seq_pure (K.neq rfl rfl) rfl ?_
    refine Rv.zn ?_
    refine K.seq_nil ?_
    refine K.norm_then ?_
    refine K.cond rfl (fun ht20 => ?_) (fun ht20 => ?_)
    · try replace ht20 := of_decide_eq_true ht20
      refine K.seq ?_
      refine K.region_lit ?_
      refine K.seq_pure (K.move) rfl ?_
      refine Rv.zn ?_
      refine K.seq_pure (K.move) rfl ?_
      refine Rv.zn ?_
      refine K.seq_pure (K.assign) rfl ?_
      refine Rv.zn ?_
      refine K.seq_pure (K.assign) rfl ?_
      refine Rv.zn ?_
      refine K.seq_nil ?_
      refine K.norm_then ?_
      refine K.ret ?_
      refine K.ret_block ?_
      refine K.ret_then ?_
      refine K.ret_then ?_
      refine K.ret_block ?_
      refine K.ret_then ?_
      refine K.end_ret (fun w _ => K.res_tmp2 rfl w) ?_
      exact K.gives (by rw [K.fst_found hk hall ht20]; rfl)
    try replace ht20 := of_decide_eq_false ht20
    have hz : q (xs.getD k default) = 0 := by omega
    refine K.skip ?_
    refine K.norm_block ?_
    refine K.norm_then ?_
    refine K.region_lit ?_
    refine K.seq_pure (K.add_i64 rfl rfl (by omega)) rfl ?_
    refine Rv.zn ?_
    refine K.seq_pure (K.move) rfl ?_
    refine Rv.zn ?_
    refine K.seq_nil ?_
    exact K.round_endW (L'' := []) [.int .i64 ((k : Int) + 1)] ⟨k + 1, rfl, rfl, by omega, K.lt_succ_case hall hz⟩ (by simp [K.nth, intOf]; omega) (List.nil_sublist _) (by kernel_rfl)
  try replace ht12 := of_decide_eq_false ht12
  refine K.exit ?_
  refine K.exit_then ?_
  refine K.exit_then ?_
  refine K.exit_here ?_
  refine K.norm_then ?_
  refine K.seq ?_
  refine K.region_lit ?_
  refine K.seq_pure (K.assign) rfl ?_
  refine Rv.zn ?_
  refine K.seq_pure (K.assign) rfl ?_
  refine Rv.zn ?_
  refine K.seq_nil ?_
  refine K.norm_then ?_
  refine K.ret ?_
  refine K.end_ret (fun w _ => K.res_tmp2 rfl w) ?_
  exact K.gives (by rw [K.fst_none (fun j hj => hall j (by omega))]; rfl)

set_option maxRecDepth 100000 in
theorem c70 {A : Option Addr} {c f : Nat} {cap : List Value} {xs : List (Int × Int × Int)} {q : (Int × Int × Int) → Int} {w : World} (hR : K.Rd w A 3 K.eT xs) (hn : xs.length ≤ 4611686018427387904) (hcal : K.callable Tryz.prog f = true) (hf : ∀ x ∈ xs, ∀ w1, Below w.heap.size w w1 → Calls Tryz.prog f ([Value.agg (K.eT x).toArray] ++ cap).toArray w1 (K.Gives (.int .i64 (q x)) w1)) :
    Calls Tryz.prog 55 [.slice A xs.length c, .func (.func f) #[] cap.toArray].toArray w (K.Gives (K.tup2 (K.fst q xs)) w) := by
  refine K.enter (args := [.slice A xs.length c, .func (.func f) #[] cap.toArray]) Tryz.func55 rfl (n := 22) rfl ?_
  simp only [List.replicate, List.cons_append, List.nil_append]
  refine K.seq ?_
  refine K.region_lit ?_
  refine K.seq_pure (K.assign) rfl ?_
  refine Rv.zn ?_
  refine K.seq_pure (K.assign) rfl ?_
  refine Rv.zn ?_
  refine K.seq_nil ?_
  refine K.norm_then ?_
  refine K.seq ?_
  refine K.seq ?_
  refine K.region_lit ?_
  refine K.seq_pure (K.move) rfl ?_
  refine Rv.zn ?_
  refine K.seq_pure (K.len_sl sl_63 rfl) rfl ?_
  refine Rv.zn ?_
  refine K.seq_pure (K.move) rfl ?_
  refine Rv.zn ?_
  refine K.seq_nil ?_
  refine K.norm_then ?_
  refine K.block ?_
  refine K.loopW [11] [4, 5, 6, 7, 8, 12, 13, 14, 15, 16, 17, 18, 19, 20, 21, 22, 23] (fun vi L => ∃ k : Nat, vi = [.int .i64 (k : Int)] ∧ L = [] ∧ k ≤ xs.length ∧ ∀ j, j < k → q (xs.getD j default) = 0) (fun vi => xs.length - (intOf (K.nth vi 0)).toNat) ?_ ?_
  · exact ⟨0, rfl, rfl, Nat.zero_le _, fun j hj => absurd hj (Nat.not_lt_zero j)⟩
  intro vi vr L hJ
  obtain ⟨k, rfl, rfl, hkn, hall⟩ := hJ
  try dsimp only [setd, setn, ev, nth, over, cl, eI, eP, eT, setM, setF, List.map, List.append, List.drop, List.take]
  refine K.seq ?_
  refine K.region_lit ?_
  refine K.seq_pure (K.lss rfl rfl) rfl ?_
  refine Rv.zn ?_
  refine K.seq_nil ?_
  refine K.norm_then ?_
  refine K.seq ?_
  refine K.cond rfl (fun ht12 => ?_) (fun ht12 => ?_)
  · try replace ht12 := of_decide_eq_true ht12
    have hk : k < xs.length := by omega
    refine K.skip ?_
    refine K.norm_then ?_
    refine K.seq ?_
    refine K.block ?_
    refine K.seq ?_
    refine K.region_lit ?_
    refine K.seq_pure (K.move) rfl ?_
    refine Rv.zn ?_
    refine K.seq_ix (M := []) _ hR.sl sl_63 rfl rfl rfl (by omega) rfl ?_
    intro p14 hp14
    try dsimp only [setd, setn, ev, nth, over, cl, eI, eP, eT, List.map, List.append, List.drop, List.take]
    refine K.seq_sil (K.loadA_p ag_61 rfl (hp14.any) rfl) rfl ?_
    try dsimp only [setd, setn, ev, nth, over, cl, eI, eP, eT, List.map, List.append, List.drop, List.take]
    refine K.seq_new (K.alloc zr_61) rfl ?_
    intro b7
    try dsimp only [setd, setn, ev, nth, over, cl, eI, eP, eT, List.map, List.append, List.drop, List.take]
    refine K.seq_pure (K.assign) rfl ?_
    refine Rv.zn ?_
    refine K.seq_st (K.store_all sz_61 rfl rfl rfl rfl (K.rp0)) rfl ?_
    try dsimp only [setd, setn, ev, nth, over, cl, eI, eP, eT, List.map, List.append, List.drop, List.take]
    refine K.seq_nil ?_
    refine K.norm_then ?_
    refine K.seq ?_
    refine K.region_lit ?_
    refine K.seq_pure (K.move) rfl ?_
    refine Rv.zn ?_
    refine K.seq_sil (K.loadA_own ag_61 rfl (K.m0) rfl) rfl ?_
    try dsimp only [setd, setn, ev, nth, over, cl, eI, eP, eT, List.map, List.append, List.drop, List.take]
    refine K.seq_call (K.callv_g (first := []) (cap := cap) rfl hcal (fun F w1 _ hw => hf _ (K.gt_mem hk) w1 hw.1)) rfl ?_
    try dsimp only [setd, setn, ev, nth, over, cl, eI, eP, eT, List.map, List.append, List.drop, List.take]
    refine K.seq_pure (K.assign) rfl ?_
    refine Rv.zn ?_
    refine K.seq_nil ?_
    refine K.norm_then ?_
    refine K.seq ?_
    refine K.region_lit ?_
    refine K.seq_pure (K.move) rfl ?_
    refine Rv.zn ?_
    refine K.seq_pure (K.neq rfl rfl) rfl ?_
    refine Rv.zn ?_
    refine K.seq_nil ?_
    refine K.norm_then ?_
    refine K.cond rfl (fun ht20 => ?_) (fun ht20 => ?_)
    · try replace ht20 := of_decide_eq_true ht20
      refine K.seq ?_
      refine K.region_lit ?_
      refine K.seq_pure (K.move) rfl ?_
      refine Rv.zn ?_
      refine K.seq_pure (K.move) rfl ?_
      refine Rv.zn ?_
      refine K.seq_pure (K.assign) rfl ?_
      refine Rv.zn ?_
      refine K.seq_pure (K.assign) rfl ?_
      refine Rv.zn ?_
      refine K.seq_nil ?_
      refine K.norm_then ?_
      refine K.ret ?_
      refine K.ret_block ?_
      refine K.ret_then ?_
      refine K.ret_then ?_
      refine K.ret_block ?_
      refine K.ret_then ?_
      refine K.end_ret (fun w _ => K.res_tmp2 rfl w) ?_
      exact K.gives (by rw [K.fst_found hk hall ht20]; rfl)
    try replace ht20 := of_decide_eq_false ht20
    have hz : q (xs.getD k default) = 0 := by omega
    refine K.skip ?_
    refine K.norm_block ?_
    refine K.norm_then ?_
    refine K.region_lit ?_
    refine K.seq_pure (K.add_i64 rfl rfl (by omega)) rfl ?_
    refine Rv.zn ?_
    refine K.seq_pure (K.move) rfl ?_
    refine Rv.zn ?_
    refine K.seq_nil ?_
    exact K.round_endW (L'' := []) [.int .i64 ((k : Int) + 1)] ⟨k + 1, rfl, rfl, by omega, K.lt_succ_case hall hz⟩ (by simp [K.nth, intOf]; omega) (List.nil_sublist _) (by kernel_rfl)
  try replace ht12 := of_decide_eq_false ht12
  refine K.exit ?_
  refine K.exit_then ?_
  refine K.exit_then ?_
  refine K.exit_here ?_
  refine K.norm_then ?_
  refine K.seq ?_
  refine K.region_lit ?_
  refine K.seq_pure (K.assign) rfl ?_
  refine Rv.zn ?_
  refine K.seq_pure (K.assign) rfl ?_
  refine Rv.zn ?_
  refine K.seq_nil ?_
  refine K.norm_then ?_
  refine K.ret ?_
  refine K.end_ret (fun w _ => K.res_tmp2 rfl w) ?_
  exact K.gives (by rw [K.fst_none (fun j hj => hall j (by omega))]; rfl)

set_option maxRecDepth 100000 in
theorem c54 {kind base most : Int} {A B : Option Addr} {c d : Nat} {hs : List Int} {rs : List (Int × Int)} {n : Int} {p : Addr} {w : World} (hp : K.PtrL w [] p [.int .i64 kind, .int .i64 base, .int .i64 most, .slice A hs.length c, .slice B rs.length d]) :
    Calls Tryz.prog 89 [.int .i64 n, .pointer (some p)].toArray w (K.Gives (.int .i64 (hE base n)) w) := by
  refine K.enter (args := [.int .i64 n, .pointer (some p)]) Tryz.func89 rfl (n := 7) rfl ?_
  simp only [List.replicate, List.cons_append, List.nil_append]
  refine K.seq ?_
  refine K.region_lit ?_
  refine K.seq_pure (K.assign) rfl ?_
  refine Rv.zn ?_
  refine K.seq_nil ?_
  refine K.norm_then ?_
  refine K.seq ?_
  refine K.seq ?_
  refine K.region_lit ?_
  refine K.seq_pure (K.fieldAddr fo_38_1 rfl) rfl ?_
  refine Rv.zn ?_
  refine K.seq_sil (K.load1 one_3 rfl ((K.PtrL.fld hp (k := 1)).any)) rfl ?_
  try dsimp only [setd, setn, ev, nth, over, cl, eI, eP, eT, List.map, List.append, List.drop, List.take]
  refine K.seq_pure (K.move) rfl ?_
  refine Rv.zn ?_
  refine K.seq_new (K.buildSlice (bs1 _)) rfl ?_
  intro b7
  try dsimp only [setd, setn, ev, nth, over, cl, eI, eP, eT, List.map, List.append, List.drop, List.take]
  refine K.seq_call (K.call_g cal_53 (fun F w hF hw => c52_1 hw (hF _ (K.m0)))) rfl ?_
  try dsimp only [setd, setn, ev, nth, over, cl, eI, eP, eT, List.map, List.append, List.drop, List.take]
  refine K.seq_nil ?_
  refine K.norm_then ?_
  refine K.cond rfl (fun ht8 => ?_) (fun ht8 => ?_)
  · try replace ht8 := of_decide_eq_true ht8
    refine K.seq ?_
    refine K.region_lit ?_
    refine K.seq_pure (K.assign) rfl ?_
    refine Rv.zn ?_
    refine K.seq_nil ?_
    refine K.norm_then ?_
    refine K.ret ?_
    refine K.ret_then ?_
    refine K.end_ret (fun w _ => K.res_tmp rfl w) ?_
    exact K.gives_i rfl (by unfold hE; rw [if_neg ht8])
  try replace ht8 := of_decide_eq_false ht8
  refine K.skip ?_
  refine K.norm_then ?_
  refine K.seq ?_
  refine K.region_lit ?_
  refine K.seq_pure (K.assign) rfl ?_
  refine Rv.zn ?_
  refine K.seq_nil ?_
  refine K.norm_then ?_
  refine K.ret ?_
  refine K.end_ret (fun w _ => K.res_tmp rfl w) ?_
  exact K.gives_i rfl (by unfold hE; rw [if_pos (by omega)])

set_option maxRecDepth 100000 in
theorem c56 {kind base most : Int} {A B : Option Addr} {c d : Nat} {hs : List Int} {rs : List (Int × Int)} {r : Int × Int} {p : Addr} {w : World} (hp : K.PtrL w [] p [.int .i64 kind, .int .i64 base, .int .i64 most, .slice A hs.length c, .slice B rs.length d]) (hn : hs.length ≤ 4611686018427387904) :
    Calls Tryz.prog 91 [.agg (K.eP r).toArray, .pointer (some p)].toArray w (K.Gives (.int .i64 (roadE hs.length r)) w) := by
  refine K.enter (args := [.agg (K.eP r).toArray, .pointer (some p)]) Tryz.func91 rfl (n := 19) rfl ?_
  simp only [List.replicate, List.cons_append, List.nil_append]
  refine K.seq ?_
  refine K.region_lit ?_
  refine K.seq_new (K.box) rfl ?_
  intro b2
  try dsimp only [setd, setn, ev, nth, over, cl, eI, eP, eT, List.map, List.append, List.drop, List.take]
  refine K.seq_pure (K.assign) rfl ?_
  refine Rv.zn ?_
  refine K.seq_nil ?_
  refine K.norm_then ?_
  refine K.seq ?_
  refine K.block ?_
  refine K.seq ?_
  refine K.region_lit ?_
  refine K.seq_pure (K.fieldAddr fo_38_3 rfl) rfl ?_
  refine Rv.zn ?_
  refine K.seq_sil (K.load1 one_28 rfl ((K.PtrL.fld hp (k := 3)).any)) rfl ?_
  try dsimp only [setd, setn, ev, nth, over, cl, eI, eP, eT, List.map, List.append, List.drop, List.take]
  refine K.seq_pure (K.len_sl sl_28 rfl) rfl ?_
  refine Rv.zn ?_
  refine K.seq_pure (K.sub_i64 rfl rfl (by omega)) rfl ?_
  refine Rv.zn ?_
  refine K.seq_pure (K.fieldAddr_lit fo_94_0 rfl) rfl ?_
  refine Rv.zn ?_
  refine K.seq_sil (K.load1_own one_3 rfl (K.m0) rfl) rfl ?_
  try dsimp only [setd, setn, ev, nth, over, cl, eI, eP, eT, List.map, List.append, List.drop, List.take]
  refine K.seq_pure (K.fieldAddr_lit fo_94_1 rfl) rfl ?_
  refine Rv.zn ?_
  refine K.seq_sil (K.load1_own one_3 rfl (K.m0) rfl) rfl ?_
  try dsimp only [setd, setn, ev, nth, over, cl, eI, eP, eT, List.map, List.append, List.drop, List.take]
  refine K.seq_new (K.buildSlice (bs2 _ _)) rfl ?_
  intro b13
  try dsimp only [setd, setn, ev, nth, over, cl, eI, eP, eT, List.map, List.append, List.drop, List.take]
  refine K.seq_call (K.call_g cal_53 (fun F w hF hw => c52_2 hw (hF _ (K.m0)))) rfl ?_
  try dsimp only [setd, setn, ev, nth, over, cl, eI, eP, eT, List.map, List.append, List.drop, List.take]
  refine K.seq_pure (K.assign) rfl ?_
  refine Rv.zn ?_
  refine K.seq_nil ?_
  refine K.norm_then ?_
  refine K.cond rfl (fun ht4 => ?_) (fun ht4 => ?_)
  · try replace ht4 := of_decide_eq_true ht4
    refine K.seq ?_
    refine K.region_lit ?_
    refine K.seq_pure (K.assign) rfl ?_
    refine Rv.zn ?_
    refine K.seq_nil ?_
    refine K.norm_then ?_
    refine K.ret ?_
    refine K.ret_block ?_
    refine K.ret_then ?_
    refine K.end_ret (fun w _ => K.res_tmp rfl w) ?_
    exact K.gives_i rfl (by unfold roadE; rw [if_neg ht4])
  try replace ht4 := of_decide_eq_false ht4
  refine K.seq ?_
  refine K.region_lit ?_
  refine K.seq_pure (K.fieldAddr_lit fo_94_0 rfl) rfl ?_
  refine Rv.zn ?_
  refine K.seq_sil (K.load1_own one_3 rfl (K.m1) rfl) rfl ?_
  try dsimp only [setd, setn, ev, nth, over, cl, eI, eP, eT, List.map, List.append, List.drop, List.take]
  refine K.seq_pure (K.fieldAddr_lit fo_94_1 rfl) rfl ?_
  refine Rv.zn ?_
  refine K.seq_sil (K.load1_own one_3 rfl (K.m1) rfl) rfl ?_
  try dsimp only [setd, setn, ev, nth, over, cl, eI, eP, eT, List.map, List.append, List.drop, List.take]
  refine K.seq_pure (K.eql rfl rfl) rfl ?_
  refine Rv.zn ?_
  refine K.seq_pure (K.assign) rfl ?_
  refine Rv.zn ?_
  refine K.seq_nil ?_
  refine K.norm_then ?_
  refine K.cond rfl (fun ht15 => ?_) (fun ht15 => ?_)
  · try replace ht15 := of_decide_eq_true ht15
    refine K.seq ?_
    refine K.region_lit ?_
    refine K.seq_pure (K.assign) rfl ?_
    refine Rv.zn ?_
    refine K.seq_nil ?_
    refine K.norm_then ?_
    refine K.ret ?_
    refine K.ret_block ?_
    refine K.ret_then ?_
    refine K.end_ret (fun w _ => K.res_tmp rfl w) ?_
    exact K.gives_i rfl (by unfold roadE; rw [if_pos (by omega), if_pos (by omega)])
  try replace ht15 := of_decide_eq_false ht15
  refine K.skip ?_
  refine K.norm_block ?_
  refine K.norm_then ?_
  refine K.seq ?_
  refine K.region_lit ?_
  refine K.seq_pure (K.assign) rfl ?_
  refine Rv.zn ?_
  refine K.seq_nil ?_
  refine K.norm_then ?_
  refine K.ret ?_
  refine K.end_ret (fun w _ => K.res_tmp rfl w) ?_
  exact K.gives_i rfl (by unfold roadE; rw [if_pos (by omega), if_neg (by omega)])

set_option maxRecDepth 100000 in
theorem c15 {kind base most : Int} {A B : Option Addr} {c d : Nat} {hs : List Int} {rs : List (Int × Int)} {w : World} (hH : K.Rd w A 1 K.eI hs) (hR : K.Rd w B 2 K.eP rs) (hn : hs.length ≤ 4611686018427387904) (hm : rs.length ≤ 4611686018427387904) :
    Calls Tryz.prog 60 [.agg #[.int .i64 kind, .int .i64 base, .int .i64 most, .slice A hs.length c, .slice B rs.length d]].toArray w (K.Gives (K.tup3 (chk kind base most hs rs)) w) := by
  refine K.enter (args := [.agg #[.int .i64 kind, .int .i64 base, .int .i64 most, .slice A hs.length c, .slice B rs.length d]]) Tryz.func60 rfl (n := 54) rfl ?_
  simp only [List.replicate, List.cons_append, List.nil_append]
  refine K.seq ?_
  refine K.region_lit ?_
  refine K.seq_new (K.box) rfl ?_
  intro b1
  try dsimp only [setd, setn, ev, nth, over, cl, eI, eP, eT, List.map, List.append, List.drop, List.take]
  refine K.seq_pure (K.assign) rfl ?_
  refine Rv.zn ?_
  refine K.seq_pure (K.assign) rfl ?_
  refine Rv.zn ?_
  refine K.seq_pure (K.assign) rfl ?_
  refine Rv.zn ?_
  refine K.seq_nil ?_
  refine K.norm_then ?_
  refine K.seq ?_
  refine K.block ?_
  refine K.seq ?_
  refine K.region_lit ?_
  refine K.seq_pure (K.fieldAddr_lit fo_38_0 rfl) rfl ?_
  refine Rv.zn ?_
  refine K.seq_sil (K.load1_own one_3 rfl (K.m0) rfl) rfl ?_
  try dsimp only [setd, setn, ev, nth, over, cl, eI, eP, eT, List.map, List.append, List.drop, List.take]
  refine K.seq_new (K.buildSlice (bs1 _)) rfl ?_
  intro b8
  try dsimp only [setd, setn, ev, nth, over, cl, eI, eP, eT, List.map, List.append, List.drop, List.take]
  refine K.seq_call (K.call_g cal_53 (fun F w hF hw => c52_1 hw (hF _ (K.m0)))) rfl ?_
  try dsimp only [setd, setn, ev, nth, over, cl, eI, eP, eT, List.map, List.append, List.drop, List.take]
  refine K.seq_pure (K.assign) rfl ?_
  refine Rv.zn ?_
  refine K.seq_nil ?_
  refine K.norm_then ?_
  refine K.cond rfl (fun ht5 => ?_) (fun ht5 => ?_)
  · try replace ht5 := of_decide_eq_true ht5
    refine K.seq ?_
    refine K.region_lit ?_
    refine K.seq_pure (K.assign) rfl ?_
    refine Rv.zn ?_
    refine K.seq_pure (K.assign) rfl ?_
    refine Rv.zn ?_
    refine K.seq_pure (K.assign) rfl ?_
    refine Rv.zn ?_
    refine K.seq_nil ?_
    refine K.norm_then ?_
    refine K.ret ?_
    refine K.ret_block ?_
    refine K.ret_then ?_
    refine K.end_ret (fun w _ => K.res_ttt rfl w) ?_
    exact K.gives (by rw [chk_1 ht5]; rfl)
  try replace ht5 := of_decide_eq_false ht5
  refine K.seq ?_
  refine K.region_lit ?_
  refine K.seq_pure (K.fieldAddr_lit fo_38_1 rfl) rfl ?_
  refine Rv.zn ?_
  refine K.seq_sil (K.load1_own one_3 rfl (K.m1) rfl) rfl ?_
  try dsimp only [setd, setn, ev, nth, over, cl, eI, eP, eT, List.map, List.append, List.drop, List.take]
  refine K.seq_new (K.buildSlice (bs1 _)) rfl ?_
  intro b13
  try dsimp only [setd, setn, ev, nth, over, cl, eI, eP, eT, List.map, List.append, List.drop, List.take]
  refine K.seq_call (K.call_g cal_53 (fun F w hF hw => c52_1 hw (hF _ (K.m0)))) rfl ?_
  try dsimp only [setd, setn, ev, nth, over, cl, eI, eP, eT, List.map, List.append, List.drop, List.take]
  refine K.seq_pure (K.move) rfl ?_
  refine Rv.zn ?_
  refine K.split 15 rfl (fun hg15 => ?_) (fun hg15 => ?_)
  · try replace hg15 := of_decide_eq_true hg15
    refine K.seq_skip ?_ ?_
    · rfl
    try dsimp only [setd, setn, ev, nth, over, cl, eI, eP, eT, List.map, List.append, List.drop, List.take]
    refine K.seq_skip ?_ ?_
    · rfl
    try dsimp only [setd, setn, ev, nth, over, cl, eI, eP, eT, List.map, List.append, List.drop, List.take]
    refine K.seq_skip ?_ ?_
    · rfl
    try dsimp only [setd, setn, ev, nth, over, cl, eI, eP, eT, List.map, List.append, List.drop, List.take]
    refine K.seq_skip ?_ ?_
    · rfl
    try dsimp only [setd, setn, ev, nth, over, cl, eI, eP, eT, List.map, List.append, List.drop, List.take]
    refine K.seq_pure (K.pick_t rfl) rfl ?_
    refine Rv.zn ?_
    refine K.seq_pure (K.assign) rfl ?_
    refine Rv.zn ?_
    refine K.seq_nil ?_
    refine K.norm_then ?_
    refine K.cond_true rfl ?_
    refine K.seq ?_
    refine K.region_lit ?_
    refine K.seq_pure (K.assign) rfl ?_
    refine Rv.zn ?_
    refine K.seq_pure (K.assign) rfl ?_
    refine Rv.zn ?_
    refine K.seq_pure (K.assign) rfl ?_
    refine Rv.zn ?_
    refine K.seq_nil ?_
    refine K.norm_then ?_
    refine K.ret ?_
    refine K.ret_block ?_
    refine K.ret_then ?_
    refine K.end_ret (fun w _ => K.res_ttt rfl w) ?_
    exact K.gives (by rw [chk_2 (by omega) (by omega)]; rfl)
  try replace hg15 := of_decide_eq_false hg15
  refine K.seq_pure (K.fieldAddr_lit fo_38_2 rfl) rfl ?_
  refine Rv.zn ?_
  refine K.seq_sil (K.load1_own one_3 rfl (K.m2) rfl) rfl ?_
  try dsimp only [setd, setn, ev, nth, over, cl, eI, eP, eT, List.map, List.append, List.drop, List.take]
  refine K.seq_new (K.buildSlice (bs1 _)) rfl ?_
  intro b18
  try dsimp only [setd, setn, ev, nth, over, cl, eI, eP, eT, List.map, List.append, List.drop, List.take]
  refine K.seq_call (K.call_g cal_53 (fun F w hF hw => c52_1 hw (hF _ (K.m0)))) rfl ?_
  try dsimp only [setd, setn, ev, nth, over, cl, eI, eP, eT, List.map, List.append, List.drop, List.take]
  refine K.seq_pure (K.pick_f rfl) rfl ?_
  refine Rv.zn ?_
  refine K.seq_pure (K.assign) rfl ?_
  refine Rv.zn ?_
  refine K.seq_nil ?_
  refine K.norm_then ?_
  refine K.cond rfl (fun ht10 => ?_) (fun ht10 => ?_)
  · try replace ht10 := of_decide_eq_true ht10
    refine K.seq ?_
    refine K.region_lit ?_
    refine K.seq_pure (K.assign) rfl ?_
    refine Rv.zn ?_
    refine K.seq_pure (K.assign) rfl ?_
    refine Rv.zn ?_
    refine K.seq_pure (K.assign) rfl ?_
    refine Rv.zn ?_
    refine K.seq_nil ?_
    refine K.norm_then ?_
    refine K.ret ?_
    refine K.ret_block ?_
    refine K.ret_then ?_
    refine K.end_ret (fun w _ => K.res_ttt rfl w) ?_
    exact K.gives (by rw [chk_2 (by omega) (by omega)]; rfl)
  try replace ht10 := of_decide_eq_false ht10
  refine K.seq ?_
  refine K.region_lit ?_
  refine K.seq_pure (K.fieldAddr_lit fo_38_3 rfl) rfl ?_
  refine Rv.zn ?_
  refine K.seq_sil (K.load1_own one_28 rfl (K.m3) rfl) rfl ?_
  try dsimp only [setd, setn, ev, nth, over, cl, eI, eP, eT, List.map, List.append, List.drop, List.take]
  refine K.seq_pure (K.len_sl sl_28 rfl) rfl ?_
  refine Rv.zn ?_
  refine K.seq_new (K.buildSlice (bs1 _)) rfl ?_
  intro b25
  try dsimp only [setd, setn, ev, nth, over, cl, eI, eP, eT, List.map, List.append, List.drop, List.take]
  refine K.seq_call (K.call_g cal_53 (fun F w hF hw => c52_1 hw (hF _ (K.m0)))) rfl ?_
  try dsimp only [setd, setn, ev, nth, over, cl, eI, eP, eT, List.map, List.append, List.drop, List.take]
  refine K.seq_pure (K.move) rfl ?_
  refine Rv.zn ?_
  refine K.split 27 rfl (fun hg27 => ?_) (fun hg27 => ?_)
  · try replace hg27 := of_decide_eq_true hg27
    refine K.seq_skip ?_ ?_
    · rfl
    try dsimp only [setd, setn, ev, nth, over, cl, eI, eP, eT, List.map, List.append, List.drop, List.take]
    refine K.seq_skip ?_ ?_
    · rfl
    try dsimp only [setd, setn, ev, nth, over, cl, eI, eP, eT, List.map, List.append, List.drop, List.take]
    refine K.seq_skip ?_ ?_
    · rfl
    try dsimp only [setd, setn, ev, nth, over, cl, eI, eP, eT, List.map, List.append, List.drop, List.take]
    refine K.seq_skip ?_ ?_
    · rfl
    try dsimp only [setd, setn, ev, nth, over, cl, eI, eP, eT, List.map, List.append, List.drop, List.take]
    refine K.seq_pure (K.pick_t rfl) rfl ?_
    refine Rv.zn ?_
    refine K.seq_pure (K.assign) rfl ?_
    refine Rv.zn ?_
    refine K.seq_nil ?_
    refine K.norm_then ?_
    refine K.cond_true rfl ?_
    refine K.seq ?_
    refine K.region_lit ?_
    refine K.seq_pure (K.assign) rfl ?_
    refine Rv.zn ?_
    refine K.seq_pure (K.assign) rfl ?_
    refine Rv.zn ?_
    refine K.seq_pure (K.assign) rfl ?_
    refine Rv.zn ?_
    refine K.seq_nil ?_
    refine K.norm_then ?_
    refine K.ret ?_
    refine K.ret_block ?_
    refine K.ret_then ?_
    refine K.end_ret (fun w _ => K.res_ttt rfl w) ?_
    exact K.gives (by rw [chk_3 (by omega) (by omega) (by omega)]; rfl)
  try replace hg27 := of_decide_eq_false hg27
  refine K.seq_pure (K.fieldAddr_lit fo_38_4 rfl) rfl ?_
  refine Rv.zn ?_
  refine K.seq_sil (K.load1_own one_36 rfl (K.m4) rfl) rfl ?_
  try dsimp only [setd, setn, ev, nth, over, cl, eI, eP, eT, List.map, List.append, List.drop, List.take]
  refine K.seq_pure (K.len_sl sl_36 rfl) rfl ?_
  refine Rv.zn ?_
  refine K.seq_pure (K.gtr rfl rfl) rfl ?_
  refine Rv.zn ?_
  refine K.seq_pure (K.pick_f rfl) rfl ?_
  refine Rv.zn ?_
  refine K.seq_pure (K.assign) rfl ?_
  refine Rv.zn ?_
  refine K.seq_nil ?_
  refine K.norm_then ?_
  refine K.cond rfl (fun ht21 => ?_) (fun ht21 => ?_)
  · try replace ht21 := of_decide_eq_true ht21
    refine K.seq ?_
    refine K.region_lit ?_
    refine K.seq_pure (K.assign) rfl ?_
    refine Rv.zn ?_
    refine K.seq_pure (K.assign) rfl ?_
    refine Rv.zn ?_
    refine K.seq_pure (K.assign) rfl ?_
    refine Rv.zn ?_
    refine K.seq_nil ?_
    refine K.norm_then ?_
    refine K.ret ?_
    refine K.ret_block ?_
    refine K.ret_then ?_
    refine K.end_ret (fun w _ => K.res_ttt rfl w) ?_
    exact K.gives (by rw [chk_3 (by omega) (by omega) (by omega)]; rfl)
  try replace ht21 := of_decide_eq_false ht21
  refine K.skip ?_
  refine K.norm_block ?_
  refine K.norm_then ?_
  refine K.seq ?_
  refine K.region_lit ?_
  refine K.seq_pure (K.fieldAddr_lit fo_38_3 rfl) rfl ?_
  refine Rv.zn ?_
  refine K.seq_sil (K.load1_own one_28 rfl (K.m4) rfl) rfl ?_
  try dsimp only [setd, setn, ev, nth, over, cl, eI, eP, eT, List.map, List.append, List.drop, List.take]
  refine K.seq_pure (K.mkFunc) rfl ?_
  try dsimp only [setd, setn, ev, nth, over, cl, eI, eP, eT, List.map, List.append, List.drop, List.take]
  refine K.seq_call (K.call_g cal_88 (fun F w hF hw => c53 (q := hE base) (cap := [.pointer (some ⟨b1, 0, none⟩)]) (hH.pass hw) hn cal_89 (fun x _ w1 hb => c54 (K.PtrL.pass hw (hF _ (K.m4)) hb)))) rfl ?_
  try dsimp only [setd, setn, ev, nth, over, cl, eI, eP, eT, List.map, List.append, List.drop, List.take]
  refine K.seq_pure (K.move) rfl ?_
  refine Rv.zn ?_
  refine K.seq_pure (K.extract rfl rfl) rfl ?_
  refine Rv.zn ?_
  refine K.seq_pure (K.extract rfl rfl) rfl ?_
  refine Rv.zn ?_
  refine K.seq_pure (K.assign) rfl ?_
  refine Rv.zn ?_
  refine K.seq_pure (K.assign) rfl ?_
  refine Rv.zn ?_
  refine K.seq_nil ?_
  refine K.norm_then ?_
  refine K.seq ?_
  refine K.seq ?_
  refine K.region_lit ?_
  refine K.seq_pure (K.move) rfl ?_
  refine Rv.zn ?_
  refine K.seq_pure (K.neq rfl rfl) rfl ?_
  refine Rv.zn ?_
  refine K.seq_nil ?_
  refine K.norm_then ?_
  refine K.cond rfl (fun ht41 => ?_) (fun ht41 => ?_)
  · try replace ht41 := of_decide_eq_true ht41
    refine K.seq ?_
    refine K.region_lit ?_
    refine K.seq_pure (K.move) rfl ?_
    refine Rv.zn ?_
    refine K.seq_pure (K.move) rfl ?_
    refine Rv.zn ?_
    refine K.seq_pure (K.assign) rfl ?_
    refine Rv.zn ?_
    refine K.seq_pure (K.assign) rfl ?_
    refine Rv.zn ?_
    refine K.seq_pure (K.assign) rfl ?_
    refine Rv.zn ?_
    refine K.seq_nil ?_
    refine K.norm_then ?_
    refine K.ret ?_
    refine K.ret_then ?_
    refine K.end_ret (fun w _ => K.res_ttt rfl w) ?_
    exact K.gives (by rw [chk_4 (by omega) (by omega) (by omega) ht41]; rfl)
  try replace ht41 := of_decide_eq_false ht41
  refine K.skip ?_
  refine K.norm_then ?_
  refine K.seq ?_
  refine K.region_lit ?_
  refine K.seq_pure (K.fieldAddr_lit fo_38_4 rfl) rfl ?_
  refine Rv.zn ?_
  refine K.seq_sil (K.load1_own one_36 rfl (K.m4) rfl) rfl ?_
  try dsimp only [setd, setn, ev, nth, over, cl, eI, eP, eT, List.map, List.append, List.drop, List.take]
  refine K.seq_pure (K.mkFunc) rfl ?_
  try dsimp only [setd, setn, ev, nth, over, cl, eI, eP, eT, List.map, List.append, List.drop, List.take]
  refine K.seq_call (K.call_g cal_90 (fun F w hF hw => c55 (q := roadE hs.length) (cap := [.pointer (some ⟨b1, 0, none⟩)]) (hR.pass hw) hm cal_91 (fun x _ w1 hb => c56 (K.PtrL.pass hw (hF _ (K.m4)) hb) hn))) rfl ?_
  try dsimp only [setd, setn, ev, nth, over, cl, eI, eP, eT, List.map, List.append, List.drop, List.take]
  refine K.seq_pure (K.move) rfl ?_
  refine Rv.zn ?_
  refine K.seq_pure (K.extract rfl rfl) rfl ?_
  refine Rv.zn ?_
  refine K.seq_pure (K.extract rfl rfl) rfl ?_
  refine Rv.zn ?_
  refine K.seq_pure (K.assign) rfl ?_
  refine Rv.zn ?_
  refine K.seq_pure (K.assign) rfl ?_
  refine Rv.zn ?_
  refine K.seq_nil ?_
  refine K.norm_then ?_
  refine K.seq ?_
  refine K.seq ?_
  refine K.region_lit ?_
  refine K.seq_pure (K.move) rfl ?_
  refine Rv.zn ?_
  refine K.seq_pure (K.neq rfl rfl) rfl ?_
  refine Rv.zn ?_
  refine K.seq_nil ?_
  refine K.norm_then ?_
  refine K.cond rfl (fun ht52 => ?_) (fun ht52 => ?_)
  · try replace ht52 := of_decide_eq_true ht52
    refine K.seq ?_
    refine K.region_lit ?_
    refine K.seq_pure (K.move) rfl ?_
    refine Rv.zn ?_
    refine K.seq_pure (K.move) rfl ?_
    refine Rv.zn ?_
    refine K.seq_pure (K.assign) rfl ?_
    refine Rv.zn ?_
    refine K.seq_pure (K.assign) rfl ?_
    refine Rv.zn ?_
    refine K.seq_pure (K.assign) rfl ?_
    refine Rv.zn ?_
    refine K.seq_nil ?_
    refine K.norm_then ?_
    refine K.ret ?_
    refine K.ret_then ?_
    refine K.end_ret (fun w _ => K.res_ttt rfl w) ?_
    exact K.gives (by rw [chk_5 (by omega) (by omega) (by omega) (by omega) ht52]; rfl)
  try replace ht52 := of_decide_eq_false ht52
  refine K.skip ?_
  refine K.norm_then ?_
  refine K.seq ?_
  refine K.region_lit ?_
  refine K.seq_pure (K.assign) rfl ?_
  refine Rv.zn ?_
  refine K.seq_pure (K.assign) rfl ?_
  refine Rv.zn ?_
  refine K.seq_pure (K.assign) rfl ?_
  refine Rv.zn ?_
  refine K.seq_nil ?_
  refine K.norm_then ?_
  refine K.ret ?_
  refine K.end_ret (fun w _ => K.res_ttt rfl w) ?_
  exact K.gives (by rw [chk_0 (by omega) (by omega) (by omega) (by omega) (by omega)]; rfl)

end Go.Proofs.YtekkpcpbnonkaaaGreatDoor.Sc
end
