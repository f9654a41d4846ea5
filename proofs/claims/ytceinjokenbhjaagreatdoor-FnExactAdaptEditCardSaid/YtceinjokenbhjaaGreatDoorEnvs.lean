/- Environments, one contract after the other. -/
import Derived.Test.YtceinjokenbhjaaGreatDoorModels
import Derived.Test.YtceinjokenbhjaaGreatDoorMk
import Derived.KernelRfl
namespace Go.Abs
theorem EnvOk.nil {P : Program} {tt : TT} {tr : Bool} (h : tt.ok P = true) : EnvOk P { tt := tt, fs := [], ms := [], trees := tr } := ⟨h, fun s hs => (by cases hs), fun s hs => (by cases hs), fun s hs => (by cases hs), fun s hs => (by cases hs), fun s hs => (by cases hs), fun s hs => (by cases hs), fun s hs => (by cases hs)⟩
theorem EnvOk.cons {P : Program} {tt : TT} {tr : Bool} {s : Fsp} {r bs ns ss : List Fsp} {ms : List Msp} (h : callable P s.fid = true) (hs : Sound P s) (hr : EnvOk P { tt := tt, fs := r, ms := ms, trees := tr, bs := bs, ns := ns, ss := ss }) : EnvOk P { tt := tt, fs := s :: r, ms := ms, trees := tr, bs := bs, ns := ns, ss := ss } :=
  ⟨hr.1, fun x hx => (by
    rcases List.mem_cons.1 hx with rfl | hx
    · exact ⟨h, hs⟩
    · exact hr.2.1 x hx), hr.2.2⟩
theorem EnvOk.consB {P : Program} {tt : TT} {tr : Bool} {s : Fsp} {r bs ns ss : List Fsp} {ms : List Msp} (h : callable P s.fid = true) (hs : BSound P s) (hr : EnvOk P { tt := tt, fs := r, ms := ms, trees := tr, bs := bs, ns := ns, ss := ss }) : EnvOk P { tt := tt, fs := r, ms := ms, trees := tr, bs := s :: bs, ns := ns, ss := ss } :=
  ⟨hr.1, hr.2.1, hr.2.2.1, fun x hx => (by
    rcases List.mem_cons.1 hx with rfl | hx
    · exact ⟨h, hs⟩
    · exact hr.2.2.2.1 x hx), hr.2.2.2.2⟩
theorem EnvOk.consS {P : Program} {tt : TT} {tr : Bool} {s : Fsp} {r bs ns ss : List Fsp} {ms : List Msp} (h : callable P s.fid = true) (hs : SSound P s) (hr : EnvOk P { tt := tt, fs := r, ms := ms, trees := tr, bs := bs, ns := ns, ss := ss }) : EnvOk P { tt := tt, fs := r, ms := ms, trees := tr, bs := bs, ns := ns, ss := s :: ss } :=
  ⟨hr.1, hr.2.1, hr.2.2.1, hr.2.2.2.1, hr.2.2.2.2.1, fun x hx => (by
    rcases List.mem_cons.1 hx with rfl | hx
    · exact ⟨h, hs⟩
    · exact hr.2.2.2.2.2.1 x hx), hr.2.2.2.2.2.2⟩
theorem MSound.fuel {P : Program} {fid : Nat} {sh : Sh} {G : Nat → sh.t.den → Int → Option (sh.t.den × Int)} {f : sh.t.den → Int → Option (sh.t.den × Int)} (h : ∀ k, MSound P ⟨fid, sh, G k⟩) (sz : sh.t.den → Nat) (hf : ∀ x n, f x n = G (sz x) x n) : MSound P ⟨fid, sh, f⟩ :=
  fun w u x n r fps hr => h (sz x) w u x n r fps ((hf x n).symm.trans hr)
theorem EnvOk.ins {P : Program} {E : Env} (l : List Isp) (hl : ∀ s, s ∈ l → callable P s.fid = true ∧ ISound P s) (h : EnvOk P E) : EnvOk P { E with is := l } :=
  ⟨h.1, h.2.1, h.2.2.1, h.2.2.2.1, h.2.2.2.2.1, h.2.2.2.2.2.1, h.2.2.2.2.2.2.1, hl⟩
theorem EnvOk.pres {P : Program} {E : Env} (l : List Nat) (h : EnvOk P E) : EnvOk P { E with pres := l } := h
theorem EnvOk.cuts {P : Program} {E : Env} (l : List (Nat × Nat × Nat × Nat × Nat)) (h : EnvOk P E) : EnvOk P { E with cuts := l } := h
theorem EnvOk.pre {P : Program} {E : Env} (l : List (Nat × List (Nat × Nat))) (h : EnvOk P E) : EnvOk P { E with pre := l } := h
end Go.Abs
namespace Go.Proofs.YtceinjokenbhjaaGreatDoor
open Go.Abs Go.Proofs
set_option maxRecDepth 100000 in
theorem tt_ok : tt.ok Tryz.prog = true := by kernel_rfl
theorem mixed_ok : Tryz.prog.follows .mixedOrders = true := by kernel_rfl
end Go.Proofs.YtceinjokenbhjaaGreatDoor
