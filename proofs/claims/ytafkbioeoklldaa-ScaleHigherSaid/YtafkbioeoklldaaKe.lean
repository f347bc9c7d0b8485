/-
  The shapes that the printed walks use: exits, loops by their slots, ways through a test.
  No conditions: plain lemmas over any program.
-/
import Derived.Test.YtafkbioeoklldaaKd
import Derived.Scope
set_option linter.unusedSimpArgs false
set_option linter.unusedVariables false
namespace Go.K
open Go.RowKit

section
variable {P : Program} {w0 : World} {L L' : List Chunk} {Q : Exit → Act → World → Prop} {l : List Value} {x y : Code} {id id' n t : Nat} {c : Operand} {b : Bool} {ops : Array Oper} {rest : List Oper}
theorem exit_here (k : Hold w0 L (Q .normal (fr l))) : Hold w0 L (Exit.inBlock id Q (.exit id) (fr l)) := fun w hw => by
  unfold Exit.inBlock
  simp only [if_true]
  exact k w hw
theorem exit_out (h : (id' == id) = false) (k : Hold w0 L (Q (.exit id') (fr l))) : Hold w0 L (Exit.inBlock id Q (.exit id') (fr l)) := fun w hw => by
  have : id' ≠ id := by simpa using h
  unfold Exit.inBlock
  simp only [this, if_false]
  exact k w hw
theorem exit_then {K : Act → World → Prop} (k : Hold w0 L (Q (.exit id) (fr l))) : Hold w0 L (Exit.then K Q (.exit id) (fr l)) := k
theorem ret_block (k : Hold w0 L (Q .ret (fr l))) : Hold w0 L (Exit.inBlock id Q .ret (fr l)) := k
theorem ret_then {K : Act → World → Prop} (k : Hold w0 L (Q .ret (fr l))) : Hold w0 L (Exit.then K Q .ret (fr l)) := k
theorem norm_block (k : Hold w0 L (Q .normal (fr l))) : Hold w0 L (Exit.inBlock id Q .normal (fr l)) := k
theorem norm_then {K : Act → World → Prop} (k : Hold w0 L (K (fr l))) : Hold w0 L (Exit.then K Q .normal (fr l)) := k

/-- A slot that holds a bool: go on with the literal. -/
theorem split (t : Nat) (hb : nth l t = .bool b) (kt : b = true → Hold w0 L (wpList P ops Q rest (fr (setn l t (.bool true))))) (kf : b = false → Hold w0 L (wpList P ops Q rest (fr (setn l t (.bool false))))) : Hold w0 L (wpList P ops Q rest (fr l)) := by
  have e : ∀ (l : List Value) t v, nth l t = v → v ≠ undef → setn l t v = l := by
    intro l
    induction l with
    | nil => intro t v h1 h2; rfl
    | cons u l ih =>
      intro t v h1 h2
      cases t with
      | zero => simp [nth] at h1; simp [setn, h1]
      | succ t => simp only [nth] at h1; simp only [setn, ih t v h1 h2]
  have hne : ∀ b, Value.bool b ≠ undef := fun b h => by cases h
  cases b with
  | true => have := kt rfl; rw [e l t _ hb (hne _)] at this; exact this
  | false => have := kf rfl; rw [e l t _ hb (hne _)] at this; exact this
theorem dsplit {A : List Chunk} {bl : List Nat} {fuel : Nat} {listed : Array Bool} (t : Nat) (hb : nth l t = .bool b) (kt : b = true → DHold P w0 ops Q A bl fuel listed (setn l t (.bool true)) L) (kf : b = false → DHold P w0 ops Q A bl fuel listed (setn l t (.bool false)) L) : DHold P w0 ops Q A bl fuel listed l L := by
  have e : ∀ (l : List Value) t v, nth l t = v → v ≠ undef → setn l t v = l := by
    intro l
    induction l with
    | nil => intro t v h1 h2; rfl
    | cons u l ih =>
      intro t v h1 h2
      cases t with
      | zero => simp [nth] at h1; simp [setn, h1]
      | succ t => simp only [nth] at h1; simp only [setn, ih t v h1 h2]
  have hne : ∀ b, Value.bool b ≠ undef := fun b h => by cases h
  cases b with
  | true => have := kt rfl; rw [e l t _ hb (hne _)] at this; exact this
  | false => have := kf rfl; rw [e l t _ hb (hne _)] at this; exact this

/-! ### Loops, by the slots that a round writes -/
def setM : List Value → List Nat → List Value → List Value
  | l, t :: ts, v :: vs => setM (setn l t v) ts vs
  | l, _, _ => l
def setF (f : Nat → Value) : List Value → List Nat → List Value
  | l, t :: ts => setF f (setn l t (f t)) ts
  | l, [] => l
theorem setn_self : ∀ (l : List Value) t, setn l t (nth l t) = l
  | [], _ => rfl
  | _ :: _, 0 => rfl
  | v :: l, t + 1 => by simp only [nth, setn, setn_self l t]
theorem setF_self (l : List Value) : ∀ ts : List Nat, setF (nth l) l ts = l
  | [] => rfl
  | t :: ts => by simp only [setF, setn_self]; exact setF_self l ts
theorem setM_self (l : List Value) : ∀ ts : List Nat, setM l ts (ts.map (nth l)) = l
  | [] => rfl
  | t :: ts => by simp only [List.map_cons, setM, setn_self]; exact setM_self l ts
theorem loopN {a : Act} {w : World} {c : Code} (I : Nat → Act → World → Prop) (h₀ : ∃ n, I n a w)
    (round : ∀ n a w, I n a w → c.wp P (Exit.then (fun a' w' => ∃ m, m < n ∧ I m a' w') Q) a w) : (Code.loop c).wp P Q a w := by
  intro b k cs
  have key : ∀ n a w, I n a w →
      ∃ e a' w', Q e a' w' ∧ Arrives P (lone (b.at a (.code c :: .inLoop c :: k)) cs w) b k cs e a' w' := by
    intro n
    induction n using Nat.strongRecOn with
    | _ n ih =>
      intro a w hI
      obtain ⟨e, a₁, w₁, hq, harr⟩ := round n a w hI b (.inLoop c :: k) cs
      cases e with
      | normal =>
        obtain ⟨m, hlt, hI₁⟩ := hq
        obtain ⟨e₂, a₂, w₂, hq₂, harr₂⟩ := ih m hlt a₁ w₁ hI₁
        exact ⟨e₂, a₂, w₂, hq₂, .of_steps (Steps.trans harr (.one step_inLoop)) harr₂⟩
      | exit id => exact ⟨_, a₁, w₁, hq, .pass (x := .inLoop c) rfl (fun _ _ => .inl (by simp)) harr⟩
      | goto l => exact ⟨_, a₁, w₁, hq, .pass (x := .inLoop c) rfl (fun _ _ => .inl (by simp)) harr⟩
      | ret => exact ⟨_, a₁, w₁, hq, .pass (x := .inLoop c) rfl (fun _ _ => .inl (by simp)) harr⟩
      | panic ch => exact ⟨_, a₁, w₁, hq, .pass (x := .inLoop c) rfl (fun _ _ => .inl (by simp)) harr⟩
      | outgrown => exact ⟨_, a₁, w₁, hq, .pass (x := .inLoop c) rfl (fun _ _ => .inl (by simp)) harr⟩
  obtain ⟨n, hn⟩ := h₀
  obtain ⟨e, a', w', hq, harr⟩ := key n _ w hn
  exact ⟨e, a', w', hq, .of_steps (.one step_loop) harr⟩
def RoundEnd (w0 : World) (J : List Value → List Chunk → Prop) (μ : List Value → Nat) (wi wr : List Nat) (l0 vi : List Value) : Act → World → Prop :=
  fun a w => ∃ vi' vr' L'', a = fr (setF vr' (setM l0 wi vi') wr) ∧ J vi' L'' ∧ μ vi' < μ vi ∧ St w0 L'' w
/-- wi: the slots that J speaks of; wr: the other slots that a round writes. -/
theorem loopW (wi wr : List Nat) (J : List Value → List Chunk → Prop) (μ : List Value → Nat) (h0 : J (wi.map (nth l)) L)
    (round : ∀ vi vr L', J vi L' → Hold w0 L' (x.wp P (Exit.then (RoundEnd w0 J μ wi wr l vi) Q) (fr (setF vr (setM l wi vi) wr)))) :
    Hold w0 L ((Code.loop x).wp P Q (fr l)) := by
  intro w hw
  refine loopN (fun n a w => ∃ vi vr L', a = fr (setF vr (setM l wi vi) wr) ∧ J vi L' ∧ μ vi = n ∧ St w0 L' w) ⟨_, _, nth l, L, by rw [setM_self, setF_self], h0, rfl, hw⟩ ?_
  rintro n a w ⟨vi, vr, L1, rfl, hJ, rfl, hst⟩
  refine wp_mono (round vi vr L1 hJ w hst) (fun e a' w' hq => ?_)
  cases e with
  | normal =>
    obtain ⟨vi', vr', L2, rfl, hJ', hlt, hst'⟩ := hq
    exact ⟨_, hlt, vi', vr', L2, rfl, hJ', rfl, hst'⟩
  | _ => exact hq
theorem round_endW {J : List Value → List Chunk → Prop} {μ : List Value → Nat} {wi wr : List Nat} {vi l0 : List Value} {L'' : List Chunk} (vi' : List Value) (hJ : J vi' L'') (hμ : μ vi' < μ vi) (hs : List.Sublist L'' L) (he : l = setF (nth l) (setM l0 wi vi') wr) :
    Hold w0 L (Exit.then (RoundEnd w0 J μ wi wr l0 vi) Q .normal (fr l)) := fun w hw =>
  ⟨vi', nth l, L'', by rw [← he], hJ, hμ, hw.sub hs⟩
theorem draw_L {lo : List Oper} (bl : List Nat) (hm : P.follows .mixedOrders = true) (k : DHold P w0 lo.toArray Q L bl lo.length (Array.replicate lo.length false) l L) : Hold w0 L ((Code.region id lo.toArray true).wp P Q (fr l)) := draw_lit L bl hm k
theorem draw_drop {lo : List Oper} (m : Nat) (bl : List Nat) (hm : P.follows .mixedOrders = true) (k : DHold P w0 lo.toArray Q (L.drop m) bl lo.length (Array.replicate lo.length false) l L) : Hold w0 L ((Code.region id lo.toArray true).wp P Q (fr l)) := draw_lit (L.drop m) bl hm k
section
variable {E : Type} [Inhabited E] {M A' : List Chunk} {A : Option Addr} {size : Nat} {e : E → List Value} {xs : List E} {d : Option Tmp} {ty : TypeId} {ps : String} {af : Array Edge} {g : Option (Nat × Bool)} {bl : List Nat} {fuel : Nat} {listed : Array Bool}
theorem Sl.ix {ty' et cap : Nat} {x y : Operand} {k : IntKind} {z : Int} (n : Nat) (h : Sl w0 M A size e xs) (ht : sl P ty' = some (et, size)) (hx : ev l x = .slice A xs.length cap) (hy : ev l y = .int k z) (hz : z = (n : Int)) (hn : n < xs.length) :
    ∃ p, Pure P ⟨d, .indexAddr ty' x y, ty, ps, af, g⟩ l (.pointer (some p)) ∧ PtrL w0 M p (e (xs.getD n default)) := by
  subst hz
  exact h.index ht hx hy (by omega) (by omega) (by simp [hn])
theorem seq_ix {ty' et cap : Nat} {x y : Operand} {k : IntKind} {z : Int} (n : Nat) (h : Sl w0 M A size e xs) (ht : sl P ty' = some (et, size)) (hx : ev l x = .slice A xs.length cap) (hy : ev l y = .int k z) (hz : z = (n : Int)) (hn : n < xs.length)
    (hg : wantL ops.toList l g = true) (kk : ∀ p, PtrL w0 M p (e (xs.getD n default)) → Hold w0 L (wpList P ops Q rest (fr (setd l d (.pointer (some p)))))) :
    Hold w0 L (wpList P ops Q (⟨d, .indexAddr ty' x y, ty, ps, af, g⟩ :: rest) (fr l)) := by
  obtain ⟨p, hp, hq⟩ := Sl.ix (d := d) (ty := ty) (ps := ps) (af := af) (g := g) n h ht hx hy hz hn
  exact seq_pure hp hg (kk p hq)
theorem d_ix {ty' et cap : Nat} {x y : Operand} {k : IntKind} {z : Int} (i : Nat) (n : Nat) (ho : nthP ops.toList i = some ⟨d, .indexAddr ty' x y, ty, ps, af, g⟩) (h : Sl w0 M A size e xs) (ht : sl P ty' = some (et, size)) (hx : ev l x = .slice A xs.length cap) (hy : ev l y = .int k z) (hz : z = (n : Int)) (hn : n < xs.length)
    (htk : takeB ops listed i = true) (hg : wantL ops.toList l g = true) (kk : ∀ p, PtrL w0 M p (e (xs.getD n default)) → DHold P w0 ops Q A' bl fuel (listed.setIfInBounds i true) (setd l d (.pointer (some p))) L) :
    DHold P w0 ops Q A' bl (fuel + 1) listed l L := by
  obtain ⟨p, hp, hq⟩ := Sl.ix (d := d) (ty := ty) (ps := ps) (af := af) (g := g) n h ht hx hy hz hn
  exact d_pure i ho hp htk hg (kk p hq)
end
theorem Rd.pass {E : Type} {A : Option Addr} {size : Nat} {e : E → List Value} {xs : List E} {F : List Chunk} {w : World} (h : Rd w0 A size e xs) (hw : St w0 F w) : Rd w A size e xs := fun k x hx => by
  obtain ⟨a, ha, hb, hc⟩ := h k x hx
  exact ⟨a, ha, Nat.lt_of_lt_of_le hb hw.1.size, fun j u hu => (hw.1.cell (p := (a.add (k * size)).add j) (by rw [addr_block, addr_block]; exact hb)).trans (hc j u hu)⟩
end
end Go.K
namespace Go.K
open Go.RowKit
theorem gives_i {w : World} {L : List Chunk} {k : IntKind} {a b : Int} {v : Value} (hv : v = .int k a) (h : a = b) : Hold w L (Gives (.int k b) w (.returned v)) := gives (by rw [hv, h])
theorem gives_b {w : World} {L : List Chunk} {a b : Bool} {v : Value} (hv : v = .bool a) (h : a = b) : Hold w L (Gives (.bool b) w (.returned v)) := gives (by rw [hv, h])
theorem rets_v {ρ : Type} {ok : ρ → Prop} {val : ρ → Value} {D : ρ → List Chunk} {w : World} {L L' : List Chunk} {v : Value} (r : ρ) (hok : ok r) (hv : v = val r) (hD : D r = L') (hs : List.Sublist L' L) : Hold w L (Ret ok val D w (.returned v)) :=
  rets r hok hv (hD ▸ hs)
end Go.K
namespace Go.K
open Go.RowKit
theorem cell_now {w0 w : World} {F : List Chunk} {b i : Nat} {t : TypeId} {cs : List Value} {v : Value} (hw : St w0 F w) (hm : blk b t cs ∈ F) (hv : cs[i]? = some v) : w.cell? ⟨b, i, none⟩ = some v := by
  rw [blk_cell (hw.2.1 _ hm).1]; exact hv
theorem cell_later {w0 w w1 : World} {F : List Chunk} {b i : Nat} {t : TypeId} {cs : List Value} {v : Value} (hw : St w0 F w) (hm : blk b t cs ∈ F) (hv : cs[i]? = some v) (hb : Below w.heap.size w w1) : w1.cell? ⟨b, i, none⟩ = some v := by
  have h := cell_now hw hm hv
  exact (hb.cell (World.block_lt_of_cell? w _ h)).trans h
theorem old_later {w w1 : World} {p : Addr} {v : Value} (h : w.cell? p = some v) (hb : Below w.heap.size w w1) : w1.cell? p = some v := (hb.cell (World.block_lt_of_cell? w _ h)).trans h
theorem St.old {w0 w : World} {F : List Chunk} {p : Addr} {v : Value} (hw : St w0 F w) (h : w0.cell? p = some v) : w.cell? p = some v := (hw.1.cell (World.block_lt_of_cell? w0 _ h)).trans h
theorem PtrL.cell1 {w0 : World} {p : Addr} {v : Value} (h : w0.cell? p = some v) : PtrL w0 [] p [v] := PtrL.old (World.block_lt_of_cell? w0 _ h) (fun j u hu => by
  cases j with
  | zero => simp at hu; subst hu; simpa [Addr.add] using h
  | succ j => simp at hu)
theorem Rd.later {E : Type} {w w1 : World} {A : Option Addr} {size : Nat} {e : E → List Value} {xs : List E} (h : Rd w A size e xs) (hb : Below w.heap.size w w1) : Rd w1 A size e xs := fun k x hx => by
  obtain ⟨a, ha, hbl, hc⟩ := h k x hx
  exact ⟨a, ha, Nat.lt_of_lt_of_le hbl hb.size, fun j u hu => (hb.cell (p := (a.add (k * size)).add j) (by rw [addr_block, addr_block]; exact hbl)).trans (hc j u hu)⟩
/-- A slice literal of the call's own, read by a callee. -/
theorem Rd.lit {E : Type} {w0 w : World} {F : List Chunk} {b : Nat} {t : TypeId} {cs : List Value} {size : Nat} {e : E → List Value} {xs : List E} (hw : St w0 F w) (hm : blk b t cs ∈ F) (hl : ∀ x, (e x).length = size) (h0 : 0 < size) (hcs : cs = xs.flatMap e) : Rd w (some ⟨b, 0, none⟩) size e xs :=
  (Sl.of_blk (w0 := w0) (b := b) (t := t) (cs := cs) hl hcs).rd (F := F) (by intro c hc; simp at hc; subst hc; exact hm) hw (fun x h => by have := hl x; rw [h] at this; simp at this; omega)
@[reducible] def eI (z : Int) : List Value := [.int .i64 z]
@[reducible] def eP (x : Int × Int) : List Value := [.int .i64 x.1, .int .i64 x.2]
@[reducible] def eT (x : Int × Int × Int) : List Value := [.int .i64 x.1, .int .i64 x.2.1, .int .i64 x.2.2]
theorem scope {P : Program} {Q : Exit → Act → World → Prop} {w0 : World} {L : List Chunk} {l : List Value} {x : Code} (k : Hold w0 L (x.wp P (Exit.noGoto Q) (fr l))) : Hold w0 L ((Code.scope x).wp P Q (fr l)) := fun w hw => wp_scope_straight (k w hw)
end Go.K
namespace Go.K
open Go.RowKit
theorem PtrL.pass {w0 w w1 : World} {F : List Chunk} {b : Nat} {t : TypeId} {cs : List Value} (hw : St w0 F w) (hm : blk b t cs ∈ F) (hb : Below w.heap.size w w1) : PtrL w1 [] ⟨b, 0, none⟩ cs := by
  have hlt : b < w.heap.size := (hw.lt hm (k := b) (by unfold blk; rfl))
  refine PtrL.old (Nat.lt_of_lt_of_le hlt hb.size) (fun j u hu => ?_)
  rw [add_lit, Nat.zero_add]
  exact cell_later hw hm hu hb
theorem PtrL.now {w0 w : World} {F : List Chunk} {b : Nat} {t : TypeId} {cs : List Value} (hw : St w0 F w) (hm : blk b t cs ∈ F) : PtrL w [] ⟨b, 0, none⟩ cs := PtrL.pass hw hm (Below.refl _ _)
@[reducible] def tup2 (x : Int × Int) : Value := .tuple #[.int .i64 x.1, .int .i64 x.2]
@[reducible] def tup3 (x : Int × Int × Int) : Value := .tuple #[.int .i64 x.1, .int .i64 x.2.1, .int .i64 x.2.2]
end Go.K
