/-
  Walks of the program's functions, printed by program: what each returns.
  Conditions stand in each theorem.
-/
import Derived.Test.YtafkbioeoklldaaKf
import Derived.Test.YtafkbioeoklldaaK2
import Derived.WalkArith
import Derived.Test.YtafkbioeoklldaaS3
import Derived.Test.YtafkbioeoklldaaWk
import Derived.Test.YtafkbioeoklldaaWl
import Derived.Test.YtafkbioeoklldaaWo
set_option linter.unusedSimpArgs false
set_option linter.unusedVariables false
namespace Go.Proofs.Ytafkbioeoklldaa
open Go.RowKit Go
open Go.K (setd setn ev nth over cl eI eP eT setM setF)
attribute [local irreducible] K.blk K.row

theorem c27 {kind base most : Int} {A B : Option Addr} {c d : Nat} {hs : List Int} {rs : List (Int × Int)} {limit : Int} {w : World} (hH : K.Rd w A 1 K.eI hs) (hR : K.Rd w B 2 K.eP rs) (hn : hs.length ≤ 4611686018427387904) (hm : rs.length ≤ 4611686018427387904) : Calls Try.prog 27 [.agg #[.int .i64 kind, .int .i64 base, .int .i64 most, .slice A hs.length c, .slice B rs.length d], .int .i64 limit].toArray w (K.Gives (sev (grtR kind base most hs rs limit)) w) := by
  by_cases he : (chk kind base most hs rs).2.2 = 0
  · have h := g27 (A := A) (B := B) (c := c) (d := d) (limit := limit) (w := w) hH hR (chk_good he)
    refine h.mono fun e w' hg => ?_
    unfold grtR
    rw [if_neg (fun h => h he)]
    by_cases hl : 0 ≤ limit ∧ limit ≤ 1000000
    · rw [if_pos hl] at hg
      rw [if_neg (fun h => h hl)]
      by_cases h0 : lastG (okG kind base most hs rs limit) SB = (0, 0)
      · rw [if_pos h0] at hg; rw [if_pos h0]; exact hg
      · rw [if_neg h0] at hg; rw [if_neg h0]; exact hg
    · rw [if_neg hl] at hg
      rw [if_pos hl]
      exact hg
  · have h := e27 (A := A) (B := B) (c := c) (d := d) (limit := limit) (w := w) hH hR hn hm he
    have e : grtR kind base most hs rs limit = ((0, 0), (chk kind base most hs rs).2.2) := by unfold grtR; rw [if_pos he]
    rw [e]
    exact h


theorem c28 {kind base most : Int} {A B : Option Addr} {c d : Nat} {hs : List Int} {rs : List (Int × Int)} {limit : Int} {w : World} (hH : K.Rd w A 1 K.eI hs) (hR : K.Rd w B 2 K.eP rs) (hn : hs.length ≤ 4611686018427387904) (hm : rs.length ≤ 4611686018427387904) : Calls Try.prog 28 [.agg #[.int .i64 kind, .int .i64 base, .int .i64 most, .slice A hs.length c, .slice B rs.length d], .int .i64 limit].toArray w (K.Gives (sev (grtR kind base most hs rs limit)) w) := by
  by_cases he : (chk kind base most hs rs).2.2 = 0
  · have h := g28 (A := A) (B := B) (c := c) (d := d) (limit := limit) (w := w) hH hR (chk_good he)
    refine h.mono fun e w' hg => ?_
    unfold grtR
    rw [if_neg (fun h => h he)]
    by_cases hl : 0 ≤ limit ∧ limit ≤ 1000000
    · rw [if_neg (fun h => h hl)] at hg
      rw [if_neg (fun h => h hl)]
      rcases last_best (p := okG kind base most hs rs limit) (q := okR kind base most hs rs limit) (fun x _ => ok_gr hl.1 x) with ⟨h1, h2⟩ | ⟨h1, h2, h3⟩
      · rw [if_pos h1] at hg; rw [if_pos h2]; exact hg
      · rw [if_neg (by omega), h3] at hg; rw [if_neg h2]; exact hg
    · rw [if_pos hl] at hg
      rw [if_pos hl]
      exact hg
  · have h := e28 (A := A) (B := B) (c := c) (d := d) (limit := limit) (w := w) hH hR hn hm he
    have e : grtR kind base most hs rs limit = ((0, 0), (chk kind base most hs rs).2.2) := by unfold grtR; rw [if_pos he]
    rw [e]
    exact h


theorem c29 {kind base most : Int} {A B : Option Addr} {c d : Nat} {hs : List Int} {rs : List (Int × Int)} {w : World} (hH : K.Rd w A 1 K.eI hs) (hR : K.Rd w B 2 K.eP rs) (hn : hs.length ≤ 4611686018427387904) (hm : rs.length ≤ 4611686018427387904) : Calls Try.prog 29 [.agg #[.int .i64 kind, .int .i64 base, .int .i64 most, .slice A hs.length c, .slice B rs.length d]].toArray w (K.Gives (sev (lstR kind base most hs rs)) w) := by
  by_cases he : (chk kind base most hs rs).2.2 = 0
  · have h := g29 (A := A) (B := B) (c := c) (d := d) (w := w) hH hR (chk_good he)
    refine h.mono fun e w' hg => ?_
    unfold lstR
    rw [if_neg (fun h => h he)]
    by_cases h0 : frstG (okL kind base most hs rs) SB = (0, 0)
    · rw [if_pos h0] at hg; rw [if_pos h0]; exact hg
    · rw [if_neg h0] at hg; rw [if_neg h0]; exact hg
  · have h := e29 (A := A) (B := B) (c := c) (d := d) (w := w) hH hR hn hm he
    have e : lstR kind base most hs rs = ((0, 0), (chk kind base most hs rs).2.2) := by unfold lstR; rw [if_pos he]
    rw [e]
    exact h


theorem c30 {kind base most : Int} {A B : Option Addr} {c d : Nat} {hs : List Int} {rs : List (Int × Int)} {w : World} (hH : K.Rd w A 1 K.eI hs) (hR : K.Rd w B 2 K.eP rs) (hn : hs.length ≤ 4611686018427387904) (hm : rs.length ≤ 4611686018427387904) : Calls Try.prog 30 [.agg #[.int .i64 kind, .int .i64 base, .int .i64 most, .slice A hs.length c, .slice B rs.length d]].toArray w (K.Gives (sev (lstR kind base most hs rs)) w) := by
  by_cases he : (chk kind base most hs rs).2.2 = 0
  · have h := g30 (A := A) (B := B) (c := c) (d := d) (w := w) hH hR (chk_good he)
    refine h.mono fun e w' hg => ?_
    unfold lstR
    rw [if_neg (fun h => h he)]
    rcases frst_best (p := okL kind base most hs rs) (q := okQ kind base most hs rs) (fun x _ => ok_lq x) with ⟨h1, h2⟩ | ⟨h1, h2, h3⟩
    · rw [if_pos h1] at hg; rw [if_pos h2]; exact hg
    · rw [if_neg (by omega), h3] at hg; rw [if_neg h2]; exact hg
  · have h := e30 (A := A) (B := B) (c := c) (d := d) (w := w) hH hR hn hm he
    have e : lstR kind base most hs rs = ((0, 0), (chk kind base most hs rs).2.2) := by unfold lstR; rw [if_pos he]
    rw [e]
    exact h


end Go.Proofs.Ytafkbioeoklldaa
