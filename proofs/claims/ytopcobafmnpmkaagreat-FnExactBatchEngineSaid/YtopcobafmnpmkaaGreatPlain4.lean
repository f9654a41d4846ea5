/- Plain laws: names, cells and notebooks that are valid; both sides alike. Plain laws: valid cells, notebooks and histories; both sides alike. -/
import Derived.Test.YtopcobafmnpmkaaGreatPlain3
set_option linter.unusedSimpArgs false
set_option linter.unusedVariables false
namespace Go.Proofs.YtopcobafmnpmkaaGreat
open Go.Abs Go.Proofs

def printable (a : Str) : Bool := allAt (fun c _ => !(decide ((c.toNat : Int) < 32)) && !(decide ((c.toNat : Int) > 126))) a 0 && decide ((a.length : Int) ≤ 120)
theorem sIsPrintable_ok (a : Str) (h : a.length < lim) : sIsPrintable a = some (printable a) := by
  refine scan_all (fun i => ((a, (i : Int)) : Str × Int)) a _ _ (fun i x hx => ?_) ?_
  · obtain ⟨hlt, rfl⟩ := List.getElem?_eq_some_iff.1 hx
    simp only [lt_of_nat hlt, cond_true, idx_nat, hx, Option.bind_some, w64_succ hlt h]
    cases decide ((a[i].toNat : Int) < 32) <;> cases decide ((a[i].toNat : Int) > 126) <;> rfl
  · simp only [nlt_self, cond_false]
theorem iIsPrintable_ok (a : Str) (h : a.length < lim) : iIsPrintable a = some (printable a) := sIsPrintable_ok a h

def okc (c : UInt8) (i : Nat) : Bool := (decide ((c.toNat : Int) ≥ 97) && decide ((c.toNat : Int) ≤ 122)) || (!((i : Int) == 0) && decide ((c.toNat : Int) ≥ 48) && decide ((c.toNat : Int) ≤ 57))
theorem sL2Shape_ok (a : Str) (h : a.length < lim) : sL2Shape a = some (allAt okc a 0 && decide ((a.length : Int) > 0)) := by
  refine scan_all (fun i => ((a, (i : Int)) : Str × Int)) a _ _ (fun i x hx => ?_) ?_
  · obtain ⟨hlt, rfl⟩ := List.getElem?_eq_some_iff.1 hx
    simp only [lt_of_nat hlt, cond_true, idx_nat, hx, Option.bind_some, w64_succ hlt h, okc]
    cases decide ((a[i].toNat : Int) ≥ 97) <;> cases decide ((a[i].toNat : Int) ≤ 122) <;> cases decide ((a[i].toNat : Int) ≥ 48) <;> cases decide ((a[i].toNat : Int) ≤ 57) <;> cases ((i : Int) == 0) <;> rfl
  · simp only [nlt_self, cond_false]
theorem iIsWord_ok (a : Str) (h : a.length < lim) : iIsWord a = some (allAt okc a 0 && (decide (1 ≤ (a.length : Int)) && decide ((a.length : Int) ≤ 8))) := by
  refine scan_all (fun i => ((a, (i : Int)) : Str × Int)) a _ _ (fun i x hx => ?_) ?_
  · obtain ⟨hlt, rfl⟩ := List.getElem?_eq_some_iff.1 hx
    simp only [lt_of_nat hlt, cond_true, idx_nat, hx, Option.bind_some, w64_succ hlt h, okc, dnlt, dngt]
    cases decide ((a[i].toNat : Int) ≥ 97) <;> cases decide ((a[i].toNat : Int) ≤ 122) <;> cases decide ((a[i].toNat : Int) ≥ 48) <;> cases decide ((a[i].toNat : Int) ≤ 57) <;> cases ((i : Int) == 0) <;> rfl
  · simp only [nlt_self, cond_false, iWithin_ok, Option.bind_some]
/-- is the word in the list -/
def hasW : List Str → Str → Bool
  | [], _ => false
  | x :: r, a => x == a || hasW r a
theorem sL1Has_ok (xs : List Str) (a : Str) (h : xs.length < lim) : sL1Has xs a = some (hasW xs a) := by
  have key : ∀ (n i : Nat), xs.length = i + n → loopD (fun (x1 : (List Str) × Str × Int) =>
    bif (decide (x1.2.2 < (x1.1.length : Int))) then
      (idx x1.1 x1.2.2).bind fun e2 =>
      bif (e2 == x1.2.1) then
        some (.inr (true))
      else
        some (.inl (x1.1, x1.2.1, w64 (x1.2.2 + 1)))
    else
      some (.inr (false))) (xs, a, (i : Int)) = some (hasW (xs.drop i) a) := by
    intro n
    induction n with
    | zero =>
      intro i hi
      have : i = xs.length := by omega
      subst this
      rw [loopD_eq]
      simp only [nlt_self, cond_false, List.drop_length]
      rfl
    | succ n ih =>
      intro i hi
      have hlt : i < xs.length := by omega
      rw [List.drop_eq_getElem_cons hlt, loopD_eq]
      simp only [lt_of_nat hlt, cond_true, idx_nat, List.getElem?_eq_getElem hlt, Option.bind_some, w64_succ hlt h, hasW]
      cases xs[i] == a with
      | true => rfl
      | false => exact ih (i + 1) (by omega)
  exact key xs.length 0 (by omega)
theorem reserved_eq (a : Str) : ∃ b, iIsReserved a = some b ∧ sIsReserved a = some b := by
  have hs : sIsReserved a = some (hasW [[108, 101, 116], [105, 110], [105, 102], [116, 104, 101, 110], [101, 108, 115, 101], [102, 111, 114], [100, 111], [108, 101, 110], [115, 117, 109], [116, 97, 107, 101], [115, 107, 105, 112], [114, 97, 110, 103, 101], [110, 116, 104], [119, 104, 101, 114, 101], [107, 101, 101, 112], [97, 100, 100], [103, 114, 111, 117, 112], [106, 111, 105, 110], [99, 111, 108, 117, 109, 110], [114, 111, 119, 115], [99, 108, 111, 99, 107], [99, 104, 97, 110, 99, 101], [102, 105, 108, 101], [116, 97, 98, 108, 101]] a) := by
    unfold sIsReserved sL2Reserved
    rw [Option.bind_some, sL1Has_ok _ _ (by decide)]
    rfl
  refine ⟨_, ?_, hs⟩
  unfold iIsReserved iArgumentCount
  simp only [hasW, beq_flip _ a]
  rcases Bool.eq_false_or_eq_true (a == [108, 101, 116]) with h0 | h0
  · rw [eq_of_beq h0]; rfl
  rcases Bool.eq_false_or_eq_true (a == [105, 110]) with h1 | h1
  · rw [eq_of_beq h1]; rfl
  rcases Bool.eq_false_or_eq_true (a == [105, 102]) with h2 | h2
  · rw [eq_of_beq h2]; rfl
  rcases Bool.eq_false_or_eq_true (a == [116, 104, 101, 110]) with h3 | h3
  · rw [eq_of_beq h3]; rfl
  rcases Bool.eq_false_or_eq_true (a == [101, 108, 115, 101]) with h4 | h4
  · rw [eq_of_beq h4]; rfl
  rcases Bool.eq_false_or_eq_true (a == [102, 111, 114]) with h5 | h5
  · rw [eq_of_beq h5]; rfl
  rcases Bool.eq_false_or_eq_true (a == [100, 111]) with h6 | h6
  · rw [eq_of_beq h6]; rfl
  rcases Bool.eq_false_or_eq_true (a == [108, 101, 110]) with h7 | h7
  · rw [eq_of_beq h7]; rfl
  rcases Bool.eq_false_or_eq_true (a == [115, 117, 109]) with h8 | h8
  · rw [eq_of_beq h8]; rfl
  rcases Bool.eq_false_or_eq_true (a == [116, 97, 107, 101]) with h9 | h9
  · rw [eq_of_beq h9]; rfl
  rcases Bool.eq_false_or_eq_true (a == [115, 107, 105, 112]) with h10 | h10
  · rw [eq_of_beq h10]; rfl
  rcases Bool.eq_false_or_eq_true (a == [114, 97, 110, 103, 101]) with h11 | h11
  · rw [eq_of_beq h11]; rfl
  rcases Bool.eq_false_or_eq_true (a == [110, 116, 104]) with h12 | h12
  · rw [eq_of_beq h12]; rfl
  rcases Bool.eq_false_or_eq_true (a == [119, 104, 101, 114, 101]) with h13 | h13
  · rw [eq_of_beq h13]; rfl
  rcases Bool.eq_false_or_eq_true (a == [107, 101, 101, 112]) with h14 | h14
  · rw [eq_of_beq h14]; rfl
  rcases Bool.eq_false_or_eq_true (a == [97, 100, 100]) with h15 | h15
  · rw [eq_of_beq h15]; rfl
  rcases Bool.eq_false_or_eq_true (a == [103, 114, 111, 117, 112]) with h16 | h16
  · rw [eq_of_beq h16]; rfl
  rcases Bool.eq_false_or_eq_true (a == [106, 111, 105, 110]) with h17 | h17
  · rw [eq_of_beq h17]; rfl
  rcases Bool.eq_false_or_eq_true (a == [99, 111, 108, 117, 109, 110]) with h18 | h18
  · rw [eq_of_beq h18]; rfl
  rcases Bool.eq_false_or_eq_true (a == [114, 111, 119, 115]) with h19 | h19
  · rw [eq_of_beq h19]; rfl
  rcases Bool.eq_false_or_eq_true (a == [99, 108, 111, 99, 107]) with h20 | h20
  · rw [eq_of_beq h20]; rfl
  rcases Bool.eq_false_or_eq_true (a == [99, 104, 97, 110, 99, 101]) with h21 | h21
  · rw [eq_of_beq h21]; rfl
  rcases Bool.eq_false_or_eq_true (a == [102, 105, 108, 101]) with h22 | h22
  · rw [eq_of_beq h22]; rfl
  rcases Bool.eq_false_or_eq_true (a == [116, 97, 98, 108, 101]) with h23 | h23
  · rw [eq_of_beq h23]; rfl
  simp only [h0, h1, h2, h3, h4, h5, h6, h7, h8, h9, h10, h11, h12, h13, h14, h15, h16, h17, h18, h19, h20, h21, h22, h23]
  rfl

theorem validName_eq (a : Str) (h : a.length < lim) : ∃ b, iIsValidName a = some b ∧ sIsValidName a = some b := by
  obtain ⟨b, hb, hb'⟩ := reserved_eq a
  unfold iIsValidName sIsValidName
  rw [iIsWord_ok a h, sL2Shape_ok a h, hb, hb']
  have e : decide (1 ≤ (a.length : Int)) = decide ((a.length : Int) > 0) := rfl
  rw [e]
  cases allAt okc a 0 <;> cases decide ((a.length : Int) > 0) <;> cases decide ((a.length : Int) ≤ 8) <;> exact ⟨_, rfl, rfl⟩
theorem validCell_eq (c : GCell) (h : Fit B20 (.base .cell) c) : ∃ b, iIsValidCell c = some b ∧ sIsValidCell c = some b := by
  rw [fit_cell] at h
  obtain ⟨b, hb, hb'⟩ := validName_eq c.name (lim20 (str20 h.2.2.2.1))
  have h2 := lim20 (str20 h.2.2.2.2.1)
  unfold iIsValidCell sIsValidCell
  rw [iIsPrintable_ok _ h2, sIsPrintable_ok _ h2]
  simp only [iWithin_ok, sL1In_ok, hb, hb', Option.bind_some]
  refine ex_same ?_
  repeat' first | exact ⟨_, rfl⟩ | apply ex_bif
theorem sCellIndex_ok (a : GNotebook) (b : Int) (h : a.cells.length < lim) : sCellIndex a b = some (firstAt (fun c => c.id == b) a.cells 0) := by
  refine scan_first (fun i => ((b, a.cells, (i : Int)) : Int × List GCell × Int)) a.cells (fun c => c.id == b) (fun i x hx => ?_) ?_
  · obtain ⟨hlt, rfl⟩ := List.getElem?_eq_some_iff.1 hx
    simp only [lt_of_nat hlt, cond_true, idx_nat, hx, Option.bind_some, w64_succ hlt h]
  · simp only [nlt_self, cond_false]
theorem iCellIndex_ok (a : GNotebook) (b : Int) (h : a.cells.length < lim) : iCellIndex a b = some (firstAt (fun c => c.id == b) a.cells 0) := by
  refine scan_first (fun i => ((b, a.cells, (a.cells.length : Int), (i : Int)) : Int × List GCell × Int × Int)) a.cells (fun c => c.id == b) (fun i x hx => ?_) ?_
  · obtain ⟨hlt, rfl⟩ := List.getElem?_eq_some_iff.1 hx
    simp only [lt_of_nat hlt, cond_true, idx_nat, hx, Option.bind_some, w64_succ hlt h]
  · simp only [nlt_self, cond_false]
open Classical in
noncomputable def cellB (c : GCell) : Bool := (sIsValidCell c).getD false
theorem validNotebook_eq (n : GNotebook) (h0 : Fit B20 (.base .notebook) n) : ∃ b, iIsValidNotebook n = some b ∧ sIsValidNotebook n = some b := by
  rw [fit_notebook] at h0
  have h : n.cells.length < lim ∧ ∀ x ∈ n.cells, Fit B20 (.base .cell) x := ⟨lim20 (list20 h0), h0.list_mem⟩
  refine ⟨allAt (fun c i => cellB c && !(firstAt (fun d => d.id == c.id) n.cells 0 != (i : Int))) n.cells 0 && decide ((n.cells.length : Int) ≤ 8), ?_, ?_⟩
  · refine scan_all (fun i => ((n.cells, n.cells, (n.cells.length : Int), (i : Int)) : List GCell × List GCell × Int × Int)) n.cells _ _ (fun i x hx => ?_) ?_
    · obtain ⟨hlt, rfl⟩ := List.getElem?_eq_some_iff.1 hx
      obtain ⟨b, h1, h2⟩ := validCell_eq _ (h.2 _ (List.getElem_mem hlt))
      have hc : cellB n.cells[i] = b := by unfold cellB; rw [h2]; rfl
      simp only [lt_of_nat hlt, cond_true, idx_nat, hx, Option.bind_some, w64_succ hlt h.1, h1, hc, iCellIndex_ok ⟨n.cells⟩ _ h.1]
      cases b <;> cases (firstAt (fun d => d.id == n.cells[i].id) n.cells 0 != (i : Int)) <;> rfl
    · simp only [nlt_self, cond_false]
  · refine scan_all (fun i => ((n.cells, (i : Int)) : List GCell × Int)) n.cells _ _ (fun i x hx => ?_) ?_
    · obtain ⟨hlt, rfl⟩ := List.getElem?_eq_some_iff.1 hx
      obtain ⟨b, h1, h2⟩ := validCell_eq _ (h.2 _ (List.getElem_mem hlt))
      have hc : cellB n.cells[i] = b := by unfold cellB; rw [h2]; rfl
      simp only [lt_of_nat hlt, cond_true, idx_nat, hx, Option.bind_some, w64_succ hlt h.1, h2, hc, sCellIndex_ok ⟨n.cells⟩ _ h.1]
      cases b <;> cases (firstAt (fun d => d.id == n.cells[i].id) n.cells 0 != (i : Int)) <;> rfl
    · simp only [nlt_self, cond_false]
end Go.Proofs.YtopcobafmnpmkaaGreat
