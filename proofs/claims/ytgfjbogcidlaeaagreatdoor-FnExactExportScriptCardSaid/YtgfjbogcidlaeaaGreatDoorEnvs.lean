import Derived.Test.YtgfjbogcidlaeaaGreatDoorModels
import Derived.Test.YtgfjbogcidlaeaaGreatDoorMk
import Derived.KernelRfl
/- Environments, one contract after the other. -/
namespace Go.Abs
theorem dY.nil {P : Program} {tt : TT} {tr : Bool} (h : tt.ok P = true) : dY P { tt := tt, fs := [], ms := [], trees := tr } := ⟨h, fun s hs => (by cases hs), fun s hs => (by cases hs), fun s hs => (by cases hs), fun s hs => (by cases hs), fun s hs => (by cases hs), fun s hs => (by cases hs), fun s hs => (by cases hs)⟩
theorem dY.cons {P : Program} {tt : TT} {tr : Bool} {s : Fsp} {r bs ns ss : List Fsp} {ms : List Msp} (h : callable P s.fid = true) (hs : Sound P s) (hr : dY P { tt := tt, fs := r, ms := ms, trees := tr, bs := bs, ns := ns, ss := ss }) : dY P { tt := tt, fs := s :: r, ms := ms, trees := tr, bs := bs, ns := ns, ss := ss } :=
 ⟨hr.1, fun x hx => (by
  rcases List.mem_cons.1 hx with rfl | hx
  ·exact ⟨h, hs⟩
  ·exact hr.2.1 x hx), hr.2.2⟩
theorem nH.fuel {P : Program} {fid : Nat} {sh : Sh} {G : Nat -> sh.t.den -> Int -> Option (sh.t.den × Int)} {f : sh.t.den -> Int -> Option (sh.t.den × Int)} (h : ∀ k, nH P ⟨fid, sh, G k⟩) (sz : sh.t.den -> Nat) (hf : ∀ x n, f x n = G (sz x) x n) : nH P ⟨fid, sh, f⟩ :=
 fun w u x n r fps hr => h (sz x) w u x n r fps ((hf x n).symm.trans hr)
theorem dY.sorts {P : Program} {E : Env} (l : List Srt) (hl : ∀ s, s ∈ l -> callable P s.fid = true /\ CU P s /\ ∃ d, P.underlying s.T = some d /\ ∀ ms, d ≠ .interface ms) (h : dY P E) : dY P { E with so := l } :=
 ⟨h.1, h.2.1, h.2.2.1, h.2.2.2.1, h.2.2.2.2.1, h.2.2.2.2.2.1, hl, h.2.2.2.2.2.2.2⟩
theorem dY.ins {P : Program} {E : Env} (l : List Isp) (hl : ∀ s, s ∈ l -> callable P s.fid = true /\ En P s) (h : dY P E) : dY P { E with is := l } :=
 ⟨h.1, h.2.1, h.2.2.1, h.2.2.2.1, h.2.2.2.2.1, h.2.2.2.2.2.1, h.2.2.2.2.2.2.1, hl⟩
theorem dY.XA {P : Program} {E : Env} (l : List Nat) (h : dY P E) : dY P { E with XA := l } := h
theorem dY.cuts {P : Program} {E : Env} (l : List (Nat × Nat × Nat × Nat × Nat)) (h : dY P E) : dY P { E with cuts := l } := h
theorem dY.pre {P : Program} {E : Env} (l : List (Nat × List (Nat × Nat))) (h : dY P E) : dY P { E with pre := l } := h
end Go.Abs
namespace Go.Proofs.YtgfjbogcidlaeaaGreatDoor
noncomputable section
open Go.Abs Go.Proofs
set_option maxRecDepth 100000 in
theorem Yr : tt.ok Tryz.prog = true := by kernel_rfl
theorem pq : Tryz.prog.follows .mixedOrders = true := by kernel_rfl
abbrev Ek : Type _ := { E : Env // dY Tryz.prog E }
namespace Ek
theorem IY {α : Type _} {p : α -> Prop} {l : List α} {x : α} (h : p x) (hl : ∀ s, s ∈ l -> p s) : ∀ s, s ∈ x :: l -> p s := fun s hs => by
 rcases List.mem_cons.1 hs with rfl | hs
 ·exact h
 ·exact hl s hs
def f (k : Ek) {s : Fsp} (h : Sound Tryz.prog s) (hc : callable Tryz.prog s.fid = true := by kernel_rfl) : Ek := ⟨{ k.1 with fs := s :: k.1.fs }, k.2.1, IY ⟨hc, h⟩ k.2.2.1, k.2.2.2⟩
def m (k : Ek) {s : Msp} (h : nH Tryz.prog s) (hc : callable Tryz.prog s.fid = true := by kernel_rfl) : Ek := ⟨{ k.1 with ms := s :: k.1.ms }, k.2.1, k.2.2.1, IY ⟨hc, h⟩ k.2.2.2.1, k.2.2.2.2⟩
def b (k : Ek) {s : Fsp} (h : eP Tryz.prog s) (hc : callable Tryz.prog s.fid = true := by kernel_rfl) : Ek := ⟨{ k.1 with bs := s :: k.1.bs }, k.2.1, k.2.2.1, k.2.2.2.1, IY ⟨hc, h⟩ k.2.2.2.2.1, k.2.2.2.2.2⟩
def n (k : Ek) {s : Fsp} (h : Vt Tryz.prog s) (hc : callable Tryz.prog s.fid = true := by kernel_rfl) : Ek := ⟨{ k.1 with ns := s :: k.1.ns }, k.2.1, k.2.2.1, k.2.2.2.1, k.2.2.2.2.1, IY ⟨hc, h⟩ k.2.2.2.2.2.1, k.2.2.2.2.2.2⟩
def s (k : Ek) {s : Fsp} (h : J7 Tryz.prog s) (hc : callable Tryz.prog s.fid = true := by kernel_rfl) : Ek := ⟨{ k.1 with ss := s :: k.1.ss }, k.2.1, k.2.2.1, k.2.2.2.1, k.2.2.2.2.1, k.2.2.2.2.2.1, IY ⟨hc, h⟩ k.2.2.2.2.2.2.1, k.2.2.2.2.2.2.2⟩
def tr (k : Ek) : Ek := ⟨{ k.1 with trees := true }, k.2⟩
def so (k : Ek) (l : List Srt) (hl : ∀ s, s ∈ l -> callable Tryz.prog s.fid = true /\ CU Tryz.prog s /\ ∃ d, Tryz.prog.underlying s.T = some d /\ ∀ ms, d ≠ .interface ms) : Ek := ⟨{ k.1 with so := l }, dY.sorts l hl k.2⟩
def ins (k : Ek) (l : List Isp) (hl : ∀ s, s ∈ l -> callable Tryz.prog s.fid = true /\ En Tryz.prog s) : Ek := ⟨{ k.1 with is := l }, dY.ins l hl k.2⟩
def XA (k : Ek) (l : List Nat) : Ek := ⟨{ k.1 with XA := l }, k.2⟩
def cuts (k : Ek) (l : List (Nat × Nat × Nat × Nat × Nat)) : Ek := ⟨{ k.1 with cuts := l }, k.2⟩
def pre (k : Ek) (l : List (Nat × List (Nat × Nat))) : Ek := ⟨{ k.1 with pre := l }, k.2⟩
end Ek
def kk0 : Ek := ⟨{ tt := tt, fs := [] }, .nil Yr⟩
theorem snd (k : Ek) (an : List (Nat × LA)) {s : Fsp} (fn : Func) (hf : Tryz.prog.funcs[s.fid]? = some fn := by kernel_rfl) (hd : ∀ x, Vl k.1 an fn s.ps s.rs s.ex x = s.fn x := by (intro x; kernel_rfl)) : Sound Tryz.prog s := tu k.2 pq an hf hd
theorem bnd (k : Ek) (an : List (Nat × LA)) {s : Fsp} (fn : Func) (hf : Tryz.prog.funcs[s.fid]? = some fn := by kernel_rfl) (hd : ∀ x, ad1 k.1 an fn s.ps s.rs s.ex s.sh x = s.fn x := by (intro x; kernel_rfl)) : eP Tryz.prog s := LZ k.2 pq an hf hd
theorem ssd (k : Ek) (an : List (Nat × LA)) {s : Fsp} (fn : Func) (hf : Tryz.prog.funcs[s.fid]? = some fn := by kernel_rfl) (hd : ∀ x, adZ k.1 an fn s.ps s.rs x = s.fn x := by (intro x; kernel_rfl)) : J7 Tryz.prog s := Kr k.2 pq an hf hd
theorem mnd (k : Ek) (an : List (Nat × LM)) {m : Msp} (fn : Func) (hf : Tryz.prog.funcs[m.fid]? = some fn := by kernel_rfl) (hd : ∀ x n, aak k.1 an fn m.sh x n = m.fn x n := by (intro x n; kernel_rfl)) : nH Tryz.prog m := KX k.2 an hf hd
abbrev roI : Sr := .ro (.base .int)
abbrev roS : Sr := .ro (.base .str)
abbrev roE (b : Base) : Sr := .ro (.base b)
abbrev roL (b : Base) : Sr := .ro (.list (.base b))
abbrev owE (b : Base) (k : Nat) : Sr := .own (.base b) true true k
abbrev _root_.Go.Abs.LA.c (n : Nat) (its : List It) (boxes : List (Nat × Nat)) (ptrs : List (Nat × Nat × Nat)) : LA := { n := n, its := its, boxes := boxes, ptrs := ptrs }
end
end Go.Proofs.YtgfjbogcidlaeaaGreatDoor
