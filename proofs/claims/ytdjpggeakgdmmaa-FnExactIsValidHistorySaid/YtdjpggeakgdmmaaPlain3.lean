/- Plain laws: sizes, copies and equality of cells, notebooks, edits, nodes and histories. -/
import Derived.Test.YtdjpggeakgdmmaaPlain2
namespace Go.Proofs.Ytdjpggeakgdmmaa
open Go.Abs Go.Proofs

/-- the greatest length that memory can hold -/
abbrev lim : Nat := 4611686018427387904
def FitL {α : Type} (P : α → Prop) (xs : List α) : Prop := xs.length < lim ∧ ∀ x ∈ xs, P x
def SmallL {α : Type} (P : α → Prop) (xs : List α) : Prop := xs.length ≤ 1048576 ∧ ∀ x ∈ xs, P x
/-- the sizes of a list of such elements -/
theorem szS_ok {α : Type} {f : α → Int → Option Int} {P Q : α → Prop} {g : List α → Int → Option Int}
    (hg : ∀ a b, g a b = (bif (decide ((w64 (b - (a.length : Int))) < 0)) then
    some ((-1))
  else
  loopD (fun (x1 : (List α) × Int × Int) =>
    bif (decide (x1.2.2 < (x1.1.length : Int))) then
      (idx x1.1 x1.2.2).bind fun e2 =>
      (f e2 x1.2.1).bind fun r3 =>
      bif (decide (r3 < 0)) then
        some (.inr ((-1)))
      else
        some (.inl (x1.1, r3, w64 (x1.2.2 + 1)))
    else
      some (.inr (x1.2.1))
  ) (a, w64 (b - (a.length : Int)), 0))) (hf : ∀ x, P x → SzOk f Q x) (xs : List α) (h : FitL P xs) : SzOk g (SmallL Q) xs := by
  intro l h0 h1
  rw [hg]
  have hl := h.1
  have hl' : (xs.length : Int) < 4611686018427387904 := Int.ofNat_lt.2 hl
  rw [w64_id (by omega) (by omega)]
  by_cases hn : l - (xs.length : Int) < 0
  · exact ⟨-1, by simp only [hn, decide_true, cond_true], .inl (by omega)⟩
  · simp only [hn, decide_false, cond_false]
    obtain ⟨r, hr, h2⟩ := szLoop f Q xs (fun x hx => hf x (h.2 x hx)) hl (l - xs.length) (by omega) (by omega)
    refine ⟨r, hr, ?_⟩
    rcases h2 with h2 | ⟨h2, h3, h4⟩
    · exact .inl h2
    · exact .inr ⟨h2, by omega, by omega, h4⟩
theorem toS_ok {α : Type} {f : α → Option α} {z : α} {g : List α → Option (List α)}
    (hg : ∀ a, g a = (mk (a.length : Int)).bind fun m1 =>
  loopD (fun (x2 : (List α) × (List α) × Int) =>
    bif (decide (x2.2.2 < (x2.1.length : Int))) then
      (idx x2.1 x2.2.2).bind fun e3 =>
      (f e3).bind fun r4 =>
      (idx x2.2.1 x2.2.2).bind fun _ =>
      (x2.2.1[x2.2.2.toNat]?).bind fun e6 =>
      some (.inl (x2.1, x2.2.1.set x2.2.2.toNat r4, w64 (x2.2.2 + 1)))
    else
      some (.inr (x2.2.1))
  ) (a, List.replicate m1 z, 0)) {Q : α → Prop} (hf : ∀ x, Q x → f x = some x) (xs : List α) (h : SmallL Q xs) : g xs = some xs := by
  have hl := h.1
  rw [hg]
  have hm : mk (xs.length : Int) = some xs.length := by
    unfold mk
    rw [if_pos (by omega)]
    simp
  rw [hm, Option.bind_some]
  exact copyLoop f xs (fun x hx => hf x (h.2 x hx)) (by omega) _ (by simp)
theorem eqS_ok {α : Type} {f : α → α → Option Bool} {g : List α → List α → Option Bool}
    (hg : ∀ a b, g a b = bif ((a.length : Int) != (b.length : Int)) then
    some (false)
  else
  loopD (fun (x1 : (List α) × (List α) × Int) =>
    bif (decide (x1.2.2 < (x1.1.length : Int))) then
      (idx x1.1 x1.2.2).bind fun e2 =>
      (idx x1.2.1 x1.2.2).bind fun e3 =>
      (f e2 e3).bind fun r4 =>
      bif (!r4) then
        some (.inr (false))
      else
        some (.inl (x1.1, x1.2.1, w64 (x1.2.2 + 1)))
    else
      some (.inr (true))
  ) (a, b, 0)) {Q : α → Prop} (hf : ∀ x, Q x → f x x = some true) (xs : List α) (h : SmallL Q xs) : g xs xs = some true := by
  have hl := h.1
  rw [hg]
  have e : ((xs.length : Int) != (xs.length : Int)) = false := by simp
  rw [e, cond_false]
  exact eqLoop f xs (fun x hx => hf x (h.2 x hx)) (by omega)

def CellFit (c : GCell) : Prop := c.name.length < lim ∧ c.code.length < lim
def CellSmall (c : GCell) : Prop := c.name.length ≤ 1048576 ∧ c.code.length ≤ 1048576
theorem szCell_ok (c : GCell) (h : CellFit c) : SzOk szCell CellSmall c := by
  intro l h0 h1
  obtain ⟨h2, h3⟩ := h
  have h2' : (c.name.length : Int) < 4611686018427387904 := Int.ofNat_lt.2 h2
  have h3' : (c.code.length : Int) < 4611686018427387904 := Int.ofNat_lt.2 h3
  unfold szCell
  rw [w64_id (n := l - (c.name.length : Int)) (by omega) (by omega)]
  by_cases hn : l - (c.name.length : Int) < 0
  · exact ⟨-1, by simp only [hn, decide_true, cond_true], .inl (by omega)⟩
  · rw [w64_id (by omega) (by omega)]
    by_cases hm : l - (c.name.length : Int) - (c.code.length : Int) < 0
    · exact ⟨-1, by simp only [hn, hm, decide_true, decide_false, cond_true, cond_false], .inl (by omega)⟩
    · refine ⟨l - (c.name.length : Int) - (c.code.length : Int), by simp only [hn, hm, decide_false, cond_false], .inr ⟨by omega, by omega, ?_⟩⟩
      exact ⟨by omega, by omega⟩
/-- sizes of parts one after the other -/
theorem SzOk.one {α β : Type} {f : α → Int → Option Int} {P : α → Prop} {g : β → Int → Option Int} {x : β} (p : β → α) (hg : ∀ b, g x b = (f (p x) b).bind fun r1 =>
  bif (decide (r1 < 0)) then
    some ((-1))
  else
    some (r1)) (h : SzOk f P (p x)) : SzOk g (fun y => P (p y)) x := by
  intro l h0 h1
  obtain ⟨r, hr, h2⟩ := h l h0 h1
  rw [hg, hr, Option.bind_some]
  rcases h2 with h2 | ⟨h2, h3, h4⟩
  · exact ⟨-1, by simp [h2], .inl (by omega)⟩
  · exact ⟨r, by simp [show ¬ r < 0 by omega], .inr ⟨h2, h3, h4⟩⟩
theorem SzOk.two {α α' β : Type} {f : α → Int → Option Int} {f' : α' → Int → Option Int} {P : α → Prop} {P' : α' → Prop} {g : β → Int → Option Int} {x : β} (p : β → α) (q : β → α') (hg : ∀ b, g x b = (f (p x) b).bind fun r1 =>
  bif (decide (r1 < 0)) then
    some ((-1))
  else
    (f' (q x) r1).bind fun r2 =>
    bif (decide (r2 < 0)) then
      some ((-1))
    else
      some (r2)) (h : SzOk f P (p x)) (h' : SzOk f' P' (q x)) : SzOk g (fun y => P (p y) ∧ P' (q y)) x := by
  intro l h0 h1
  obtain ⟨r, hr, h2⟩ := h l h0 h1
  rw [hg, hr, Option.bind_some]
  rcases h2 with h2 | ⟨h2, h3, h4⟩
  · exact ⟨-1, by simp [h2], .inl (by omega)⟩
  · obtain ⟨r', hr', h5⟩ := h' r h2 (by omega)
    have hn : ¬ r < 0 := by omega
    rw [hr']
    rcases h5 with h5 | ⟨h5, h6, h7⟩
    · exact ⟨-1, by simp [hn, h5], .inl (by omega)⟩
    · exact ⟨r', by simp [hn, show ¬ r' < 0 by omega], .inr ⟨h5, by omega, h4, h7⟩⟩
def EditFit (e : GEdit) : Prop := CellFit e.cell
def EditSmall (e : GEdit) : Prop := CellSmall e.cell
def NodeFit (n : GNode) : Prop := FitL EditFit n.edits ∧ FitL EditFit n.undo
def NodeSmall (n : GNode) : Prop := SmallL EditSmall n.edits ∧ SmallL EditSmall n.undo
def NotebookFit (n : GNotebook) : Prop := FitL CellFit n.cells
def NotebookSmall (n : GNotebook) : Prop := SmallL CellSmall n.cells
def HistoryFit (h : GHistory) : Prop := NotebookFit h.notebook ∧ FitL NodeFit h.nodes
def HistorySmall (h : GHistory) : Prop := NotebookSmall h.notebook ∧ SmallL NodeSmall h.nodes
theorem szCellS_ok : ∀ xs, FitL CellFit xs → SzOk szCellS (SmallL CellSmall) xs := szS_ok (fun _ _ => rfl) szCell_ok
theorem szEdit_ok (e : GEdit) (h : EditFit e) : SzOk szEdit EditSmall e := SzOk.one (fun e : GEdit => e.cell) (fun _ => rfl) (szCell_ok _ h)
theorem szEditS_ok : ∀ xs, FitL EditFit xs → SzOk szEditS (SmallL EditSmall) xs := szS_ok (fun _ _ => rfl) szEdit_ok
theorem szNode_ok (n : GNode) (h : NodeFit n) : SzOk szNode NodeSmall n := SzOk.two (fun n : GNode => n.edits) (fun n : GNode => n.undo) (fun _ => rfl) (szEditS_ok _ h.1) (szEditS_ok _ h.2)
theorem szNodeS_ok : ∀ xs, FitL NodeFit xs → SzOk szNodeS (SmallL NodeSmall) xs := szS_ok (fun _ _ => rfl) szNode_ok
theorem szNotebook_ok (n : GNotebook) (h : NotebookFit n) : SzOk szNotebook NotebookSmall n := SzOk.one (fun n : GNotebook => n.cells) (fun _ => rfl) (szCellS_ok _ h)
theorem szHistory_ok (n : GHistory) (h : HistoryFit n) : SzOk szHistory HistorySmall n := SzOk.two (fun n : GHistory => n.notebook) (fun n : GHistory => n.nodes) (fun _ => rfl) (szNotebook_ok _ h.1) (szNodeS_ok _ h.2)

theorem toCell_ok (c : GCell) (_ : CellSmall c) : toCell c = some c := rfl
theorem toCellS_ok : ∀ xs, SmallL CellSmall xs → toCellS xs = some xs := toS_ok (fun _ => rfl) toCell_ok
theorem toNotebook_ok (n : GNotebook) (h : NotebookSmall n) : toNotebook n = some n := by
  unfold toNotebook; rw [toCellS_ok _ h]; rfl
theorem toEdit_ok (e : GEdit) (_ : EditSmall e) : toEdit e = some e := rfl
theorem toEditS_ok : ∀ xs, SmallL EditSmall xs → toEditS xs = some xs := toS_ok (fun _ => rfl) toEdit_ok
theorem toNode_ok (n : GNode) (h : NodeSmall n) : toNode n = some n := by
  unfold toNode; rw [toEditS_ok _ h.1, toEditS_ok _ h.2]; rfl
theorem toNodeS_ok : ∀ xs, SmallL NodeSmall xs → toNodeS xs = some xs := toS_ok (fun _ => rfl) toNode_ok
theorem toHistory_ok (n : GHistory) (h : HistorySmall n) : toHistory n = some n := by
  unfold toHistory; rw [toNotebook_ok _ h.1, toNodeS_ok _ h.2]; rfl

theorem eqCell_ok (c : GCell) (_ : CellSmall c) : eqCell c c = some true := by simp [eqCell]
theorem eqCellS_ok : ∀ xs, SmallL CellSmall xs → eqCellS xs xs = some true := eqS_ok (fun _ _ => rfl) eqCell_ok
theorem eqNotebook_ok (n : GNotebook) (h : NotebookSmall n) : eqNotebook n n = some true := by
  unfold eqNotebook; rw [eqCellS_ok _ h]; rfl
theorem eqEdit_ok (e : GEdit) (h : EditSmall e) : eqEdit e e = some true := by
  unfold eqEdit; rw [eqCell_ok _ h]; simp
theorem eqEditS_ok : ∀ xs, SmallL EditSmall xs → eqEditS xs xs = some true := eqS_ok (fun _ _ => rfl) eqEdit_ok
theorem eqNode_ok (n : GNode) (h : NodeSmall n) : eqNode n n = some true := by
  unfold eqNode; rw [eqEditS_ok _ h.1, eqEditS_ok _ h.2]; simp
theorem eqNodeS_ok : ∀ xs, SmallL NodeSmall xs → eqNodeS xs xs = some true := eqS_ok (fun _ _ => rfl) eqNode_ok
theorem eqHistory_ok (n : GHistory) (h : HistorySmall n) : eqHistory n n = some true := by
  unfold eqHistory; rw [eqNotebook_ok _ h.1, eqNodeS_ok _ h.2]; simp
end Go.Proofs.Ytdjpggeakgdmmaa
