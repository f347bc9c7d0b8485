/-
  Plain lemmas and plain functions, several texts joined.
  Conditions stand in each theorem.
-/
import Derived.Test.YtoemnobfnnjopaaDoorK1
import Derived.WalkSpells
import Derived.Test.YtoemnobfnnjopaaDoorK2
import Derived.Test.YtoemnobfnnjopaaDoorK4
set_option linter.unusedSimpArgs false
set_option linter.unusedVariables false
/-
  Bools that are compared.
  No conditions: plain lemmas over any program.
-/
namespace Go.K
open Go.RowKit
def boT (P : Program) (t : TypeId) : Bool := match P.underlying t with | some .bool => true | _ => false
theorem boT_spec {P : Program} {t : TypeId} (h : boT P t = true) : P.underlying t = some .bool := by
  unfold boT at h
  split at h
  · assumption
  · cases h
section
variable {P : Program} {w0 : World} {L : List Chunk} {l : List Value} {d : Option Tmp} {ty : TypeId} {ps : String} {af : Array Edge} {g : Option (Nat × Bool)} {xt yt : TypeId} {x y : Operand} {a b : Bool}
theorem run_equalIn_b (h : boT P xt = true) (w : World) (k : Nat) : (Op.equalIn (k + 1) xt (.bool a) (.bool b)).run P w = .ok (a == b) w := by
  simp [Op.equalIn, run_underlying (boT_spec h)]
theorem run_equal_b (h : boT P xt = true) (w : World) : (Op.equal xt (.bool a) (.bool b)).run P w = .ok (a == b) w := by
  simp only [Op.equal, Op.maxDepth, run_equalIn_b h w 9999]
theorem eql_bb (h : boT P xt = true) (hx : ev l x = .bool a) (hy : ev l y = .bool b) : Pure P ⟨d, .binOp .eql xt x y yt, ty, ps, af, g⟩ l (.bool (a == b)) := fun w => by
  simp [execOp, hx, hy, binOp, eqGuard, run_equal_b h]
theorem neq_bb (h : boT P xt = true) (hx : ev l x = .bool a) (hy : ev l y = .bool b) : Pure P ⟨d, .binOp .neq xt x y yt, ty, ps, af, g⟩ l (.bool (a != b)) := fun w => by
  simp [execOp, hx, hy, binOp, eqGuard, run_equal_b h, bne]
end
end Go.K

/-
  A part of a block, stored at a place worked out.
  No conditions: plain lemmas over any program.
-/
namespace Go.K
open Go.RowKit
theorem rp0e {c c' c'' : Chunk} {L : List Chunk} (h : c' = c'') : Rep c c' (c :: L) (c'' :: L) := by subst h; exact rp0
theorem flat_cut {E : Type} {e : E → List Value} {size : Nat} {rest : List Value} (hl : ∀ x, (e x).length = size) : ∀ {xs : List E} {k : Nat}, k ≤ xs.length → (xs.flatMap e ++ rest).take (k * size) = (xs.take k).flatMap e ∧ (xs.flatMap e ++ rest).drop (k * size) = (xs.drop k).flatMap e ++ rest
  | [], 0, _ => by simp
  | [], k + 1, h => by simp at h
  | x :: xs, 0, _ => by simp
  | x :: xs, k + 1, h => by
    have ih := flat_cut (rest := rest) hl (xs := xs) (k := k) (by simpa using h)
    have e1 : (k + 1) * size = (e x).length + k * size := by rw [hl, Nat.add_mul]; omega
    rw [List.flatMap_cons, List.append_assoc, e1]
    refine ⟨?_, ?_⟩
    · rw [List.take_append, List.take_of_length_le (by omega), show (e x).length + k * size - (e x).length = k * size by omega, ih.1]; simp
    · rw [List.drop_append, List.drop_of_length_le (by omega), show (e x).length + k * size - (e x).length = k * size by omega, ih.2]; simp
theorem set_cut {E : Type} {e : E → List Value} {xs : List E} {k : Nat} {x : E} {size : Nat} {rest : List Value} (hl : ∀ x, (e x).length = size) (hk : k < xs.length) : over (xs.flatMap e ++ rest) (0 + k * size) (e x) = (xs.set k x).flatMap e ++ rest := by
  have hlen : (xs.flatMap e).length = xs.length * size := flat_len hl xs
  have hfit : 0 + k * size + (e x).length ≤ (xs.flatMap e ++ rest).length := by
    rw [hl, List.length_append, hlen]
    have : (k + 1) * size ≤ xs.length * size := Nat.mul_le_mul_right _ hk
    rw [Nat.add_mul] at this; omega
  have h := List.toArray_inj (over_eq (e x) (xs.flatMap e ++ rest) (0 + k * size) hfit)
  rw [h, hl, Nat.zero_add, (flat_cut hl (by omega)).1, show k * size + size = (k + 1) * size by rw [Nat.add_mul]; omega, (flat_cut hl (by omega)).2, List.set_eq_take_append_cons_drop, if_pos hk, List.flatMap_append, List.flatMap_cons]
  simp
theorem res_t5 {P : Program} {l : List Value} {fn : Func} {t u v x y : Tmp} (h : fn.results = #[.tmp t, .tmp u, .tmp v, .tmp x, .tmp y]) (w : World) : (results fn l.toArray).run P w = .ok (.tuple #[nth l t, nth l u, nth l v, nth l x, nth l y]) w := by
  have ht : ∀ t, l.toArray[t]?.getD undef = nth l t := fun t => by rw [nth_eq]; simp
  simp at ht
  simp [results, h, ht]
theorem res_t4 {P : Program} {l : List Value} {fn : Func} {t u v x : Tmp} (h : fn.results = #[.tmp t, .tmp u, .tmp v, .tmp x]) (w : World) : (results fn l.toArray).run P w = .ok (.tuple #[nth l t, nth l u, nth l v, nth l x]) w := by
  have ht : ∀ t, l.toArray[t]?.getD undef = nth l t := fun t => by rw [nth_eq]; simp
  simp at ht
  simp [results, h, ht]
theorem over_len : ∀ (us xs : List Value) (j : Nat), (over xs j us).length = xs.length
  | [], _, _ => rfl
  | u :: us, xs, j => by rw [over, over_len us, setn_eq, List.length_set]
theorem over_app : ∀ (us xs rest : List Value) (j : Nat), j + us.length ≤ xs.length → over (xs ++ rest) j us = over xs j us ++ rest
  | [], _, _, _, _ => rfl
  | u :: us, xs, rest, j, h => by
    simp only [List.length_cons] at h
    rw [over, over, setn_eq, setn_eq, List.set_append_left _ _ (by omega)]
    exact over_app us _ rest (j + 1) (by rw [List.length_set]; omega)
section
variable {P : Program} {w0 : World} {L L' : List Chunk} {l : List Value} {d : Option Tmp} {ty : TypeId} {ps : String} {af : Array Edge} {g : Option (Nat × Bool)}
/-- A part of an owned row is stored. -/
theorem store_row {t k b j n c size : Nat} {e : TypeId} {x y : Operand} {xs : List Value} (hn : sz P t = some k) (hx : ev l x = .pointer (some ⟨b, j, none⟩)) (hlen : (cl (ev l y)).length = k) (hfit : j + k ≤ xs.length)
    (h1 : (cl (ev l y)).all Value.oneCell' = true) (hr : Rep (row (.slice (some ⟨b, 0, none⟩) n c) e size n xs) (row (.slice (some ⟨b, 0, none⟩) n c) e size n (over xs j (cl (ev l y)))) L L') :
    Upd P w0 L ⟨d, .store t x y, ty, ps, af, g⟩ l (fun _ : Unit => True) (fun _ => undef) (fun _ => L') := fun w hw => by
  have ho : w.ownsRow 0 e size (.slice (some ⟨b, 0, none⟩) n c) n xs := (hw.2.1 _ hr.mem).1
  obtain ⟨hl, hd⟩ := ho
  rcases hd with ⟨hv, _⟩ | ⟨g', cap, ⟨cs⟩, hv, hb0, hh, h2, h3, h4, ht⟩
  · cases hv
  injection hv with e1 _ e3
  have e1' : b = g' := by injection e1 with e1; injection e1
  subst e1' e3
  have hcs : cs = xs ++ cs.drop (n * size) := by
    have : cs.take (n * size) = xs := ht
    rw [← this, List.take_append_drop]
  have hcl : xs.length ≤ cs.length := by rw [hcs, List.length_append]; omega
  have hst := run_storeCells_at P b j e (cl (ev l y)) 0 cs.toArray w hh (by simp; omega) (by simpa using h1)
  simp only [Nat.add_zero] at hst
  rw [← over_eq _ _ _ (by omega)] at hst
  refine OpT.of_skip (w' := w.setRow b (over cs j (cl (ev l y))).toArray) ?_ ⟨(), trivial, rfl, hw.upd hr (grownBy_setRow w b _) (fun k hk => by cases hk; rfl) ?_ (fun k hk => .inl hk)⟩
  · unfold sz at hn
    cases hi : P.info? t with
    | none => simp [hi] at hn
    | some q =>
      have hs : q.size = k := by simpa [hi] using hn
      have hcs : (ev l y).cells.size = k := by rw [← hlen, ← cells_cl]; simp
      simp [execOp, hx, Instr.storeAt, Instr.sureAddr, storeVar, sizeOf, typeInfo, hi, hs, hcs, cells_cl, hst]
  · refine ⟨by rw [over_len, hl], .inr ⟨b, c, (over cs j (cl (ev l y))).toArray, rfl, hb0, setRow_heap w b cs.toArray _ e (0, 0) hh, h2, h3, ?_, ?_⟩⟩
    · show (over cs j (cl (ev l y))).length = _
      rw [over_len]; exact h4
    · show (over cs j (cl (ev l y))).take (n * size) = _
      rw [hcs, over_app _ _ _ _ (by omega), ← hl, ← over_len (cl (ev l y)) xs j, List.take_left]
end
theorem set_cut0 {E : Type} {e : E → List Value} {xs : List E} {k : Nat} {x : E} {size : Nat} (hl : ∀ x, (e x).length = size) (hk : k < xs.length) : over (xs.flatMap e) (0 + k * size) (e x) = (xs.set k x).flatMap e := by
  have h := set_cut (rest := []) (x := x) hl hk
  simpa using h
theorem over_right : ∀ (us a b : List Value) (i : Nat), over (a ++ b) (a.length + i) us = a ++ over b i us
  | [], _, _, _ => rfl
  | u :: us, a, b, i => by
    rw [over, over, setn_eq, setn_eq, List.set_append_right _ _ (by omega), show a.length + i - a.length = i by omega, show a.length + i + 1 = a.length + (i + 1) by omega]
    exact over_right us a _ (i + 1)
/-- A part of an element, stored. -/
theorem set_fld {E : Type} [Inhabited E] {e : E → List Value} {size j : Nat} {us : List Value} {x' : E} (hl : ∀ x, (e x).length = size) (hj : j + us.length ≤ size) : ∀ {xs : List E} {k : Nat}, k < xs.length → over (e (xs.getD k default)) j us = e x' → over (xs.flatMap e) (0 + k * size + j) us = (xs.set k x').flatMap e
  | [], _, h, _ => by simp at h
  | x :: xs, 0, _, h => by
    rw [List.flatMap_cons, show 0 + 0 * size + j = j by omega, over_app _ _ _ _ (by rw [hl]; exact hj)]
    rw [List.getD_cons_zero] at h
    rw [h]; rfl
  | x :: xs, k + 1, hk, h => by
    rw [List.getD_cons_succ] at h
    rw [List.flatMap_cons, show 0 + (k + 1) * size + j = (e x).length + (0 + k * size + j) by rw [hl, Nat.add_mul]; omega, over_right, set_fld hl hj (by simpa using hk) h]
    rfl
theorem rpe {c c' c'' : Chunk} {L L' : List Chunk} (hr : Rep c c' L L') (h : c' = c'') : Rep c c'' L L' := h ▸ hr
section
variable {P : Program} {l : List Value} {d : Option Tmp} {ty : TypeId} {ps : String} {af : Array Edge} {g : Option (Nat × Bool)} {xt yt : TypeId} {x y : Operand}
theorem rem_8 {a b : Int} (hx : ev l x = .int .u8 a) (hy : ev l y = .int .u8 b) (h0 : 0 ≤ a) (h1 : 0 < b) : Pure P ⟨d, .binOp .rem xt x y yt, ty, ps, af, g⟩ l (.int .u8 (a % b)) := fun w => by
  have hd : a.tmod b = a % b := Int.tmod_eq_emod_of_nonneg h0
  simp [execOp, hx, hy, eqGuard_rem, binOp_rem, Op.intDiv, show b ≠ 0 by omega, hd]
end
end Go.K

/-
  Inner rows, read by the caller.
  No conditions: plain lemmas over any program.
-/
namespace Go.K
open Go.RowKit
section
variable {w0 : World} {L : List Chunk} {G : World → Prop}
theorem use_innS {F : Nat → Prop} {vs : List Value} {zs : List (List Int)} {i : Nat} (hm : inn F vs zs ∈ L) (hi : i < zs.length) (k : ∀ A c, vs.getD i default = .slice A (zs.getD i default).length c → Sl w0 [inn F vs zs] A 1 eI (zs.getD i default) → Hold w0 L G) : Hold w0 L G :=
  use_inn hm hi fun A c hv w hw => by
    refine k A c hv ?_ w hw
    have hrd := Rd.inn hw hm hi hv
    intro j u hu
    obtain ⟨a, ha, _, _⟩ := hrd j u hu
    refine ⟨a, ha, fun F' w' hF hw' m x hx => ?_⟩
    obtain ⟨a', ha', _, hc'⟩ := Rd.inn hw' (hF _ (List.mem_singleton.2 rfl)) hi hv j u hu
    obtain rfl : a = a' := Option.some.inj (ha.symm.trans ha')
    exact hc' m x hx
end
end Go.K
