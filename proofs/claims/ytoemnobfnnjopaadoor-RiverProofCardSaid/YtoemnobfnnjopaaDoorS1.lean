/-
  Plain lemmas and plain functions, several texts joined.
  Conditions stand in each theorem.
-/
import Derived.Test.YtoemnobfnnjopaaDoorK2
import Derived.Test.YtoemnobfnnjopaaDoorK7
set_option linter.unusedSimpArgs false
set_option linter.unusedVariables false
/-
  Points of rivers, names, and short lemmas for the printed walks.
  No conditions but those in the theorems.
-/
namespace Go.Proofs.YtoemnobfnnjopaaDoor
open Go
def outB (lo hi : Int) (xs : List Int) : Bool := xs.any fun n => decide (n < lo) || decide (n > hi)
structure RvT where
  nm : ByteArray
  dn : Int
  ls : Int
  ht : Int
instance : Inhabited RvT := ⟨⟨ByteArray.empty, 0, 0, 0⟩⟩
def eR (p : RvT) : List Value := [.string p.nm, .int .i64 p.dn, .int .i64 p.ls, .int .i64 p.ht]
@[reducible] def eH (x : Int) : List Value := [.int .u16 x]
/-- The frame of a walk, worked out (a shorter text than the tactic's own). -/
theorem zN {A B : Prop} (k : A) (e : B = A := by first | (dsimp only [K.setd, K.setn, K.ev, K.nth, K.over, K.cl, K.eI, K.eP, K.eT, eR, List.map, List.append, List.drop, List.take] <;> rfl) | rfl) : B := e ▸ k
theorem zn {A B : Prop} (k : A) (e : B = A := by dsimp only [K.setd, K.setn, K.ev, K.nth] <;> rfl) : B := e ▸ k
section
open Go.RowKit
variable {P : Program} {w0 : World} {L : List K.Chunk} {Q : Exit → Act → World → Prop} {l : List Value} {ops : Array Oper} {rest : List Oper} {o : Oper} {v : Value} {d : Option Tmp} {ty : TypeId} {ps : String} {af : Array Edge} {g : Option (Nat × Bool)} {A : Prop} {x : Operand} {id i : Nat}
theorem qp (h : K.Pure P o l v) (k : A) (hg : K.wantL ops.toList l o.guard = true := by exact rfl) (e : K.Hold w0 L (wpList P ops Q rest (K.fr (K.setd l o.dst v))) = A := by dsimp only [K.setd, K.setn, K.ev, K.nth] <;> rfl) : K.Hold w0 L (wpList P ops Q (o :: rest) (K.fr l)) := K.seq_pure h hg (e ▸ k)
theorem qm (k : A) (hg : K.wantL ops.toList l g = true := by exact rfl) (e : K.Hold w0 L (wpList P ops Q rest (K.fr (K.setd l d (K.ev l x)))) = A := by dsimp only [K.setd, K.setn, K.ev, K.nth] <;> rfl) : K.Hold w0 L (wpList P ops Q (⟨d, .move x, ty, ps, af, g⟩ :: rest) (K.fr l)) := K.seq_pure K.move hg (e ▸ k)
theorem qa (k : A) (hg : K.wantL ops.toList l g = true := by exact rfl) (e : K.Hold w0 L (wpList P ops Q rest (K.fr (K.setd l d (K.ev l x)))) = A := by dsimp only [K.setd, K.setn, K.ev, K.nth] <;> rfl) : K.Hold w0 L (wpList P ops Q (⟨d, .assign x, ty, ps, af, g⟩ :: rest) (K.fr l)) := K.seq_pure K.assign hg (e ▸ k)
theorem qx {vs : List Value} (k : A) (hx : K.ev l x = .tuple vs.toArray := by exact rfl) (hi : Nat.blt i vs.length = true := by exact rfl) (hg : K.wantL ops.toList l g = true := by exact rfl) (e : K.Hold w0 L (wpList P ops Q rest (K.fr (K.setd l d (K.nth vs i)))) = A := by dsimp only [K.setd, K.setn, K.ev, K.nth] <;> rfl) : K.Hold w0 L (wpList P ops Q (⟨d, .extract x i, ty, ps, af, g⟩ :: rest) (K.fr l)) := K.seq_pure (K.extract hx hi) hg (e ▸ k)
theorem qs (k : A) (hg : K.wantL ops.toList l o.guard = false := by exact rfl) (e : K.Hold w0 L (wpList P ops Q rest (K.fr (K.setd l o.dst undef))) = A := by dsimp only [K.setd, K.setn, K.ev, K.nth] <;> rfl) : K.Hold w0 L (wpList P ops Q (o :: rest) (K.fr l)) := K.seq_skip hg (e ▸ k)
theorem sn {J : Act → World → Prop} (k : K.Hold w0 L (J (K.fr l))) : K.Hold w0 L (wpList P ops (Exit.then J Q) [] (K.fr l)) := K.seq_nil (K.norm_then k)
theorem sr {lo : List Oper} {y : Code} (k : K.Hold w0 L (wpList P lo.toArray (Exit.then (y.wp P Q) Q) lo (K.fr l))) : K.Hold w0 L ((Code.seq (Code.region id lo.toArray false) y).wp P Q (K.fr l)) := K.seq (K.region_lit k)
end
def okC (i : Nat) (b : Int) : Bool := decide ((97 ≤ b ∧ b ≤ 122) ∨ (0 < i ∧ ((48 ≤ b ∧ b ≤ 57) ∨ b = 45)))
/-- The string is a name. -/
def nameB (s : ByteArray) : Bool := decide (1 ≤ s.size ∧ s.size ≤ 16) && (List.range s.size).all fun i => okC i (K.bt s i)
def nmEq (a b : ByteArray) : Bool := a.toList == b.toList
/-- What Fresh returns. -/
def freshE (s : ByteArray) (l : List ByteArray) : Int := if nameB s = false then 6 else if (l.any fun q => nmEq q s) = true then 5 else 0
theorem name_f1 {s : ByteArray} (h : ¬ (1 ≤ (s.size : Int) ∧ (s.size : Int) ≤ 16)) : nameB s = false := by
  unfold nameB; rw [decide_eq_false (by omega)]; rfl
theorem name_f2 {s : ByteArray} {i : Nat} (hi : i < s.size) (h : okC i (K.bt s i) = false) : nameB s = false := by
  unfold nameB; rw [Bool.and_eq_false_iff]; right
  exact List.all_eq_false.2 ⟨i, List.mem_range.2 hi, by simp [h]⟩
theorem name_t {s : ByteArray} (h1 : 1 ≤ s.size ∧ s.size ≤ 16) (h : ∀ i, i < s.size → okC i (K.bt s i) = true) : nameB s = true := by
  unfold nameB; rw [decide_eq_true h1, Bool.true_and]
  exact List.all_eq_true.2 (fun i hi => h i (List.mem_range.1 hi))
end Go.Proofs.YtoemnobfnnjopaaDoor

/-
  Rivers as plain lists: steps down, how far the mouth is, the drop to it, what lies below.
  No conditions but those in the theorems.
-/
namespace Go.Proofs.YtoemnobfnnjopaaDoor
open Go
/-- One step down; the mouth stays. -/
def stp (r : List RvT) (i : Nat) : Nat := if (r.getD i default).dn = -1 then i else (r.getD i default).dn.toNat
def stps (r : List RvT) : Nat → Nat → Nat
  | 0, i => i
  | k + 1, i => stp r (stps r k i)
/-- Good rivers. -/
structure Good (r : List RvT) : Prop where
  n : 1 ≤ r.length ∧ r.length ≤ 9
  p : ∀ i, i < r.length → ((0 ≤ (r.getD i default).ls ∧ (r.getD i default).ls ≤ 500) ∧ (0 ≤ (r.getD i default).ht ∧ (r.getD i default).ht ≤ 9000)) ∧ (-1 ≤ (r.getD i default).dn ∧ (r.getD i default).dn ≤ (r.length : Int) - 1) ∧ ((r.getD i default).dn = -1 → (r.getD i default).ls = 0)
  m : ∃ k, k < r.length ∧ (r.getD k default).dn = -1 ∧ ∀ i, i < r.length → (r.getD i default).dn = -1 → i = k
  r : ∀ i, i < r.length → (r.getD (stps r r.length i) default).dn = -1
/-- How many steps the mouth is away. -/
def dep (r : List RvT) (i : Nat) : Nat := ((List.range (r.length + 1)).find? fun k => decide ((r.getD (stps r k i) default).dn = -1)).getD 0
def DF (r : List RvT) : Nat → Nat → Int
  | 0, _ => 0
  | f + 1, i => if (r.getD i default).dn = -1 then 0 else (r.getD i default).ls + DF r f (r.getD i default).dn.toNat
/-- The drop to the mouth. -/
def DM (r : List RvT) (i : Nat) : Int := DF r r.length i
/-- A point, or one below it. -/
def bl (r : List RvT) (i k : Nat) : Prop := ∃ j, stps r j i = k
section
variable {r : List RvT} {i k j : Nat}
theorem stps_comm : ∀ k, stps r k (stp r i) = stps r (k + 1) i
  | 0 => rfl
  | k + 1 => by rw [stps, stps_comm k]; rfl
theorem stps_add : ∀ k j, stps r k (stps r j i) = stps r (k + j) i
  | 0, j => by rw [Nat.zero_add]; rfl
  | k + 1, j => by rw [stps, stps_add k j, Nat.succ_add]; rfl
theorem stp_m (h : (r.getD i default).dn = -1) : stp r i = i := by unfold stp; rw [if_pos h]
theorem stp_d (h : (r.getD i default).dn ≠ -1) : stp r i = (r.getD i default).dn.toNat := by unfold stp; rw [if_neg h]
theorem stps_m (h : (r.getD i default).dn = -1) : ∀ k, stps r k i = i
  | 0 => rfl
  | k + 1 => by rw [stps, stps_m h k, stp_m h]
theorem stp_lt (g : Good r) (hi : i < r.length) : stp r i < r.length := by
  have := (g.p i hi).2.1
  unfold stp
  split
  · exact hi
  · omega
theorem stps_lt (g : Good r) (hi : i < r.length) : ∀ k, stps r k i < r.length
  | 0 => hi
  | k + 1 => stp_lt g (stps_lt g hi k)
theorem dep_of {d : Nat} (hd : d ≤ r.length) (h1 : (r.getD (stps r d i) default).dn = -1) (h2 : ∀ j, j < d → (r.getD (stps r j i) default).dn ≠ -1) : dep r i = d := by
  unfold dep
  have : (List.range (r.length + 1)).find? (fun k => decide ((r.getD (stps r k i) default).dn = -1)) = some d := by
    rw [List.find?_range_eq_some]
    refine ⟨decide_eq_true h1, List.mem_range.2 (by omega), fun j hj => ?_⟩
    simpa using h2 j hj
  rw [this]; rfl
theorem dep_is (g : Good r) (hi : i < r.length) : dep r i ≤ r.length ∧ (r.getD (stps r (dep r i) i) default).dn = -1 ∧ ∀ j, j < dep r i → (r.getD (stps r j i) default).dn ≠ -1 := by
  cases e : (List.range (r.length + 1)).find? (fun k => decide ((r.getD (stps r k i) default).dn = -1)) with
  | none =>
    have := List.find?_eq_none.1 e r.length (List.mem_range.2 (by omega))
    exact absurd (decide_eq_true (g.r i hi)) this
  | some d =>
    have e2 : dep r i = d := by unfold dep; rw [e]; rfl
    rw [List.find?_range_eq_some] at e
    obtain ⟨h1, h2, h3⟩ := e
    rw [e2]
    refine ⟨by have := List.mem_range.1 h2; omega, of_decide_eq_true h1, fun j hj => ?_⟩
    simpa using h3 j hj
theorem dep_m (g : Good r) (hi : i < r.length) : dep r i = 0 ↔ (r.getD i default).dn = -1 := by
  have h := dep_is g hi
  constructor
  · intro e; rw [e] at h; exact h.2.1
  · intro e
    rcases Nat.eq_zero_or_pos (dep r i) with h0 | h0
    · exact h0
    · exact absurd e (h.2.2 0 h0)
theorem dep_d (g : Good r) (hi : i < r.length) (h : (r.getD i default).dn ≠ -1) : dep r i = dep r (r.getD i default).dn.toNat + 1 := by
  have hd := dep_is g hi
  have h0 : dep r i ≠ 0 := fun e => h ((dep_m g hi).1 e)
  have : dep r (stp r i) = dep r i - 1 := by
    refine dep_of (by omega) ?_ (fun j hj => ?_)
    · rw [stps_comm, show dep r i - 1 + 1 = dep r i by omega]; exact hd.2.1
    · rw [stps_comm]; exact hd.2.2 (j + 1) (by omega)
  rw [← stp_d h]; omega
/-- From the mouth up. -/
theorem down_ind (g : Good r) {P : Nat → Prop} (h0 : ∀ i, i < r.length → (r.getD i default).dn = -1 → P i) (h1 : ∀ i, i < r.length → (r.getD i default).dn ≠ -1 → (r.getD i default).dn.toNat < r.length → P (r.getD i default).dn.toNat → P i) : ∀ i, i < r.length → P i := by
  have : ∀ d i, i < r.length → dep r i = d → P i := by
    intro d
    induction d with
    | zero => intro i hi e; exact h0 i hi ((dep_m g hi).1 e)
    | succ d ih =>
      intro i hi e
      have hm : (r.getD i default).dn ≠ -1 := fun e2 => by have := (dep_m g hi).2 e2; omega
      have hlt := stp_lt g hi
      rw [stp_d hm] at hlt
      exact h1 i hi hm hlt (ih _ hlt (by have := dep_d g hi hm; omega))
  exact fun i hi => this _ i hi rfl
theorem DF_eq (g : Good r) : ∀ f f' i, i < r.length → dep r i ≤ f → dep r i ≤ f' → DF r f i = DF r f' i
  | 0, 0, _, _, _, _ => rfl
  | 0, f' + 1, i, hi, h, _ => by rw [DF, DF, if_pos ((dep_m g hi).1 (by omega))]
  | f + 1, 0, i, hi, _, h => by rw [DF, DF, if_pos ((dep_m g hi).1 (by omega))]
  | f + 1, f' + 1, i, hi, h, h' => by
    rw [DF, DF]
    split
    · rfl
    · rename_i hm
      have hlt := stp_lt g hi
      rw [stp_d hm] at hlt
      have := dep_d g hi hm
      rw [DF_eq g f f' _ hlt (by omega) (by omega)]
theorem DM_m (h : (r.getD i default).dn = -1) : DM r i = 0 := by
  unfold DM
  cases r.length with
  | zero => rfl
  | succ n => rw [DF, if_pos h]
theorem DM_d (g : Good r) (hi : i < r.length) (h : (r.getD i default).dn ≠ -1) : DM r i = (r.getD i default).ls + DM r (r.getD i default).dn.toNat := by
  have hlt := stp_lt g hi
  rw [stp_d h] at hlt
  have hd := dep_d g hi h
  have hd2 := (dep_is g hi).1
  have e : DM r i = DF r (r.length + 1) i := DF_eq g _ _ _ hi (by omega) (by omega)
  rw [e, DF, if_neg h]; rfl
theorem DM_bd (g : Good r) : ∀ i, i < r.length → 0 ≤ DM r i ∧ DM r i ≤ 500 * (dep r i : Int) := by
  refine down_ind g (fun i hi hm => ?_) (fun i hi hm hlt ih => ?_)
  · rw [DM_m hm]; omega
  · have := g.p i hi
    rw [DM_d g hi hm, dep_d g hi hm]; omega
theorem DM_le (g : Good r) (hi : i < r.length) : 0 ≤ DM r i ∧ DM r i ≤ 4500 := by
  have h1 := DM_bd g i hi
  have h2 := (dep_is g hi).1
  have h3 := g.n
  omega
theorem DM_step (g : Good r) (hi : i < r.length) : DM r (stp r i) ≤ DM r i := by
  by_cases h : (r.getD i default).dn = -1
  · rw [stp_m h]; omega
  · rw [stp_d h]; have := DM_d g hi h; have := g.p i hi; omega
theorem DM_stps (g : Good r) (hi : i < r.length) : ∀ k, DM r (stps r k i) ≤ DM r i
  | 0 => by show DM r i ≤ _; omega
  | k + 1 => by
    have := DM_step g (stps_lt g hi k)
    have := DM_stps g hi k
    show DM r (stp r (stps r k i)) ≤ _; omega
/-! What lies below -/
theorem bl_refl : bl r i i := ⟨0, rfl⟩
theorem bl_tr (h1 : bl r i j) (h2 : bl r j k) : bl r i k := by
  obtain ⟨a, rfl⟩ := h1
  obtain ⟨b, rfl⟩ := h2
  exact ⟨b + a, (stps_add b a).symm⟩
theorem bl_lt (g : Good r) (hi : i < r.length) (h : bl r i k) : k < r.length := by
  obtain ⟨a, rfl⟩ := h; exact stps_lt g hi a
theorem bl_down (h : (r.getD i default).dn ≠ -1) : bl r i (r.getD i default).dn.toNat := ⟨1, stp_d h⟩
theorem bl_DM (g : Good r) (hi : i < r.length) (h : bl r i k) : DM r k ≤ DM r i := by
  obtain ⟨a, rfl⟩ := h; exact DM_stps g hi a
theorem dep_stp (g : Good r) (hi : i < r.length) : dep r (stp r i) = dep r i - 1 := by
  by_cases h : (r.getD i default).dn = -1
  · rw [stp_m h, (dep_m g hi).2 h]
  · rw [stp_d h]; have := dep_d g hi h; omega
theorem dep_stps (g : Good r) (hi : i < r.length) : ∀ k, dep r (stps r k i) = dep r i - k
  | 0 => rfl
  | k + 1 => by rw [stps, dep_stp g (stps_lt g hi k), dep_stps g hi k]; omega
theorem stps_past (g : Good r) (hi : i < r.length) (h : dep r i ≤ k) : stps r k i = stps r (dep r i) i := by
  have hm := (dep_is g hi).2.1
  have := stps_m hm (k - dep r i)
  rw [stps_add] at this
  rw [← this]; congr 1; omega
theorem bl_fin (g : Good r) (hi : i < r.length) : bl r i k ↔ ∃ j, j ≤ dep r i ∧ stps r j i = k := by
  constructor
  · rintro ⟨j, h⟩
    by_cases hj : j ≤ dep r i
    · exact ⟨j, hj, h⟩
    · exact ⟨dep r i, Nat.le_refl _, by rw [← stps_past g hi (by omega : dep r i ≤ j)]; exact h⟩
  · rintro ⟨j, _, h⟩; exact ⟨j, h⟩
theorem bl_anti (g : Good r) (hi : i < r.length) (h : bl r i k) (hne : i ≠ k) : dep r k < dep r i := by
  obtain ⟨j, hj, rfl⟩ := (bl_fin g hi).1 h
  rw [dep_stps g hi]
  rcases Nat.eq_zero_or_pos j with h0 | h0
  · subst h0; exact absurd rfl hne
  · omega
theorem bl_cmp (h1 : bl r i j) (h2 : bl r i k) : bl r j k ∨ bl r k j := by
  obtain ⟨a, rfl⟩ := h1
  obtain ⟨b, rfl⟩ := h2
  rcases Nat.le_total a b with h | h
  · exact .inl ⟨b - a, by rw [stps_add]; congr 1; omega⟩
  · exact .inr ⟨a - b, by rw [stps_add]; congr 1; omega⟩
theorem bl_or (h : bl r i k) : i = k ∨ (r.getD i default).dn ≠ -1 ∧ bl r (r.getD i default).dn.toNat k := by
  obtain ⟨j, h⟩ := h
  by_cases hm : (r.getD i default).dn = -1
  · rw [stps_m hm] at h; exact .inl h
  · cases j with
    | zero => exact .inl h
    | succ j => rw [← stps_comm, stp_d hm] at h; exact .inr ⟨hm, j, h⟩
theorem bl_two (g : Good r) (hi : i < r.length) (hk : k < r.length) (h1 : bl r i k) (h2 : bl r k i) : i = k := by
  by_cases h : i = k
  · exact h
  · have := bl_anti g hi h1 h; have := bl_anti g hk h2 (Ne.symm h); omega
end
/-- A point, or one below it, worked out. -/
def blB (r : List RvT) (i k : Nat) : Bool := (List.range (r.length + 1)).any fun j => stps r j i == k
/-- The drop from a point to one below it; -1: it is not below it. -/
def drp (r : List RvT) (i k : Nat) : Int := if blB r i k then DM r i - DM r k else -1
section
variable {r : List RvT} {i k j : Nat}
theorem blB_iff (g : Good r) (hi : i < r.length) : blB r i k = true ↔ bl r i k := by
  unfold blB
  rw [List.any_eq_true, bl_fin g hi]
  constructor
  · rintro ⟨j, _, h⟩
    have h := eq_of_beq h
    by_cases hj : j ≤ dep r i
    · exact ⟨j, hj, h⟩
    · exact ⟨dep r i, Nat.le_refl _, by rw [← stps_past g hi (by omega : dep r i ≤ j)]; exact h⟩
  · rintro ⟨j, hj, h⟩
    have := (dep_is g hi).1
    exact ⟨j, List.mem_range.2 (by omega), beq_iff_eq.2 h⟩
theorem drp_bl (g : Good r) (hi : i < r.length) (h : bl r i k) : drp r i k = DM r i - DM r k := by unfold drp; rw [if_pos ((blB_iff g hi).2 h)]
theorem drp_no (g : Good r) (hi : i < r.length) (h : ¬ bl r i k) : drp r i k = -1 := by unfold drp; rw [if_neg (fun h' => h ((blB_iff g hi).1 h'))]
theorem drp_ge (g : Good r) (hi : i < r.length) : 0 ≤ drp r i k ↔ bl r i k := by
  by_cases h : bl r i k
  · rw [drp_bl g hi h]; have := bl_DM g hi h; exact ⟨fun _ => h, fun _ => by omega⟩
  · rw [drp_no g hi h]; exact ⟨fun h' => by omega, fun h' => absurd h' h⟩
theorem drp_bd (g : Good r) (hi : i < r.length) : -1 ≤ drp r i k ∧ drp r i k ≤ 4500 := by
  by_cases h : bl r i k
  · rw [drp_bl g hi h]; have := bl_DM g hi h; have := DM_le g hi; have := DM_le g (bl_lt g hi h); omega
  · rw [drp_no g hi h]; omega
end
end Go.Proofs.YtoemnobfnnjopaaDoor
