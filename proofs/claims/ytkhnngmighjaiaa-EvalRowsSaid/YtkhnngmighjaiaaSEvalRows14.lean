import Derived.Test.YtkhnngmighjaiaaSEvalRows9
import Derived.Test.YtkhnngmighjaiaaProg
namespace Go.Proofs.Ytkhnngmighjaiaa.Hand
open Go Go.RowKit Go.Proofs.YtkhnngmighjaiaaW.PrintWords Go.Proofs.YtkhnngmighjaiaaW.PrintLast Go.Proofs.YtkhnngmighjaiaaW.PrintMore
set_option linter.unusedVariables false
set_option linter.unusedSimpArgs false
section
variable {P : Program} {oi : Oper} {ρ : Operand → Value}
theorem ring_makes {n : String} {x : Operand} {v : Value} (hop : oi.op = .makeFunc (.method n) #[x] #[]) (hx : ρ x = v) (w : World) : (execOp ρ oi).run P w = .ok (.value (.func (.method n) #[v] #[])) w := by
  unfold execOp
  simp [hop, hx, Instr.makeFunc]
theorem ring_checks {n : String} {t : TypeId} {v : Value} {x : Operand} (hn : ∀ w, (nilAhead (P.types.size + Made.depth) t v n).run P w = .ok (some false) w) (hop : oi.op = .nilCheck x) (hx : ρ x = .func (.method n) #[.iface t v] #[]) (w : World) : (execOp ρ oi).run P w = .ok (.value (.func (.method n) #[.iface t v] #[])) w := by
  unfold execOp
  have h := hn w
  have rp : ∀ w, (program : Sem Program).run P w = .ok P w := fun _ => rfl
  simp [hop, hx, rp, h]
theorem ring_enters {f : FuncId} {fn : Func} (hf : P.funcs[f]? = some fn) (hname : (fn.name == "runtime.NumGoroutine") = false) (hb : fn.body.isSome = true) (args : Array Value) (w : World) : (callFunc f args).run P w = .ok (.enter f args) w := by
  have h1 : fn.name ≠ "runtime.NumGoroutine" := by simpa using hname
  obtain ⟨c, hc⟩ := Option.isSome_iff_exists.1 hb
  simp [callFunc, hf, h1, hc]
theorem ring_goes1 {t : TypeId} {v v' : Value} {n : String} {rcv : Operand} {f : FuncId} {fn : Func} {ars : Array Operand} {ts : Array TypeId} {x : Value} (hm : ∀ w, (method (P.types.size + Made.depth) t v n).run P w = .ok (f, v') w) (hf : P.funcs[f]? = some fn) (hname : (fn.name == "runtime.NumGoroutine") = false) (hb : fn.body.isSome = true)
    (hop : oi.op = .call { callee := .invoke rcv n, args := ars, argTypes := ts }) (hrcv : ρ rcv = .iface t v) (hargs : ars.map ρ = #[x]) (w : World) : (execOp ρ oi).run P w = .ok (.enter f #[v', x]) w := by
  have he := ring_enters hf hname hb #[v', x] w
  have h := hm w
  have rp : ∀ w, (program : Sem Program).run P w = .ok P w := fun _ => rfl
  unfold execOp
  simp [hop, resolve, invoke, callMethod, hrcv, hargs, rp, h, he]
theorem ring_goes2 {t : TypeId} {v v' : Value} {n : String} {rcv : Operand} {f : FuncId} {fn : Func} {ars : Array Operand} {ts : Array TypeId} {x y : Value} (hm : ∀ w, (method (P.types.size + Made.depth) t v n).run P w = .ok (f, v') w) (hf : P.funcs[f]? = some fn) (hname : (fn.name == "runtime.NumGoroutine") = false) (hb : fn.body.isSome = true)
    (hop : oi.op = .call { callee := .invoke rcv n, args := ars, argTypes := ts }) (hrcv : ρ rcv = .iface t v) (hargs : ars.map ρ = #[x, y]) (w : World) : (execOp ρ oi).run P w = .ok (.enter f #[v', x, y]) w := by
  have he := ring_enters hf hname hb #[v', x, y] w
  have h := hm w
  have rp : ∀ w, (program : Sem Program).run P w = .ok P w := fun _ => rfl
  unfold execOp
  simp [hop, resolve, invoke, callMethod, hrcv, hargs, rp, h, he]
end
set_option maxRecDepth 100000 in
theorem ring_method_elements_add (a0 : Int) (w : World) : (method (Try.prog.types.size + Made.depth) 66 (.agg #[.int .u8 a0]) "conclave/eval.add").run Try.prog w = .ok (92, .agg #[.int .u8 a0]) w := by kernel_rfl
set_option maxRecDepth 100000 in
theorem ring_nil_elements_add (a0 : Int) (w : World) : (nilAhead (Try.prog.types.size + Made.depth) 66 (.agg #[.int .u8 a0]) "conclave/eval.add").run Try.prog w = .ok (some false) w := by kernel_rfl
set_option maxRecDepth 100000 in
theorem ring_method_elements_sub (a0 : Int) (w : World) : (method (Try.prog.types.size + Made.depth) 66 (.agg #[.int .u8 a0]) "conclave/eval.sub").run Try.prog w = .ok (95, .agg #[.int .u8 a0]) w := by kernel_rfl
set_option maxRecDepth 100000 in
theorem ring_nil_elements_sub (a0 : Int) (w : World) : (nilAhead (Try.prog.types.size + Made.depth) 66 (.agg #[.int .u8 a0]) "conclave/eval.sub").run Try.prog w = .ok (some false) w := by kernel_rfl
set_option maxRecDepth 100000 in
theorem ring_method_elements_mul (a0 : Int) (w : World) : (method (Try.prog.types.size + Made.depth) 66 (.agg #[.int .u8 a0]) "conclave/eval.mul").run Try.prog w = .ok (93, .agg #[.int .u8 a0]) w := by kernel_rfl
set_option maxRecDepth 100000 in
theorem ring_nil_elements_mul (a0 : Int) (w : World) : (nilAhead (Try.prog.types.size + Made.depth) 66 (.agg #[.int .u8 a0]) "conclave/eval.mul").run Try.prog w = .ok (some false) w := by kernel_rfl
set_option maxRecDepth 100000 in
theorem ring_method_elements_number (a0 : Int) (w : World) : (method (Try.prog.types.size + Made.depth) 66 (.agg #[.int .u8 a0]) "conclave/eval.number").run Try.prog w = .ok (94, .agg #[.int .u8 a0]) w := by kernel_rfl
set_option maxRecDepth 100000 in
theorem ring_nil_elements_number (a0 : Int) (w : World) : (nilAhead (Try.prog.types.size + Made.depth) 66 (.agg #[.int .u8 a0]) "conclave/eval.number").run Try.prog w = .ok (some false) w := by kernel_rfl
end Go.Proofs.Ytkhnngmighjaiaa.Hand
