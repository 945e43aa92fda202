/- Small laws: a great variable in a drawn region; a row's load taken first; a row's first bytes. -/
import Derived.Test.YtcahlponmbnkcaaDoorW4
import Derived.Test.YtcahlponmbnkcaaDoorX1
namespace Go.Proofs.YtcahlponmbnkcaaDoor
open Go Go.RowKit

theorem wp_allocV {P : Program} {o : Oper} {a : Act} {w : World} {K : Act → World → Prop} {Q : Exit → Act → World → Prop} (t : TypeId) (ho : o.op = .alloc t) (cs : Array Value)
    (hz : ∀ w, (Instr.alloc t true (.tuple #[])).run P w = .ok (.pointer (some ⟨w.heap.size, 0, none⟩)) (w.alloc (.cells cs t)))
    (h : K (a.put o.dst (.pointer (some ⟨w.heap.size, 0, none⟩))) (w.alloc (.cells cs t))) : o.wp P a w K Q := by
  unfold Oper.wp
  simp only [execOp, ho, Sem.run_bind, hz, Result.andThen, Sem.run_pure, Oper.upon]
  exact h

theorem al33 (w : World) : (Instr.alloc 33 true (.tuple #[])).run Tryd.prog w = .ok (.pointer (some ⟨w.heap.size, 0, none⟩)) (w.alloc (.cells zeros33 33)) := by kernel_rfl

theorem yields_load_row {P : Program} {ops : Array Oper} {S : World → Prop} {o : Oper} {a : Act} (ty : TypeId) (x : Operand) (ho : o.op = .load ty x)
    (g : Nat) (hx : a.eval x = .pointer (some ⟨g, 0, none⟩)) (t : TypeId) (cs : Array Value) (fr : Nat × Nat) (d : TypeDesc) (hg : ∀ w, S w → w.heap[g]? = some (.cells cs t fr))
    (hu : P.underlying ty = some d) (hd : (match d with | .struct _ | .array _ _ => true | _ => false) = true) (hi : (P.info? ty).map (·.size) = some cs.size)
    (hw : Region.wanted o (yielded ops a.tmps) = true) : YieldsIf P ops S o (.agg cs) a := by
  refine .inl ⟨hw, fun w hS => ?_⟩
  unfold execOp
  simp only [ho, hx, Instr.loadAt, Instr.sureAddr, Sem.run_bind, Sem.run_pure, Result.andThen_ok, run_loadVar_row w g t ty cs fr d (hg w hS) hu hd hi]

theorem Rd.take {w : World} {a : Option Addr} {n c : Nat} {bs : List Int} (h : Rd w (.slice a n c) bs) (m : Nat) (hm : m ≤ n) : Rd w (.slice a m c) (bs.take m) := by
  rcases h with ⟨e, rfl⟩ | ⟨b, off, cap, e, h1, h2, h3⟩
  · injection e with e1 e2 e3
    subst e1 e2 e3
    have : m = 0 := by omega
    subst this
    exact .inl ⟨rfl, rfl⟩
  · injection e with e1 e2 e3
    subst e1 e2 e3
    have hl : (bs.take m).length = m := by simp; omega
    refine .inr ⟨b, off, c, by rw [hl], by omega, h2, fun j u hu => h3 j u ?_⟩
    rw [List.getElem?_map, List.getElem?_take] at hu
    rw [List.getElem?_map]
    by_cases hj : j < m
    · rwa [if_pos hj] at hu
    · rw [if_neg hj] at hu; cases hu
end Go.Proofs.YtcahlponmbnkcaaDoor
