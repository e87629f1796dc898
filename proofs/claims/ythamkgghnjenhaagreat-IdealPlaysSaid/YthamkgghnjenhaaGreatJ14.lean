/- The K walker: more on maps (delete, look-ups that tell, held against nil). -/
import Derived.Laws.Externs
import Derived.Test.YthamkgghnjenhaaGreatJ13
namespace Go.Proofs.YthamkgghnjenhaaGreat
open Go.RowKit
set_option linter.unusedVariables false
set_option linter.unusedSimpArgs false

def mdel (ms : List ME) (k : Int) : List ME := ms.filter fun e => !(k == e.k)
theorem mdel_self {k : Int} : ∀ {ms : List ME}, mfind k ms 0 = none → mdel ms k = ms := by
  intro ms h
  refine List.filter_eq_self.2 fun e he => ?_
  have := mfind_none h e he
  simp; exact fun e => this e.symm
theorem mdel_erase {k : Int} : ∀ {ms : List ME} {i : Nat} {v : Value}, (ms.map (·.k)).Nodup → mfind k ms 0 = some (i, v) → ms.eraseIdx i = mdel ms k
  | [], i, v, _, h => by simp [mfind] at h
  | e :: r, i, v, hn, h => by
    simp only [List.map_cons, List.nodup_cons] at hn
    simp only [mfind] at h
    cases hk : (k == e.k)
    · rw [hk, mfind_shift] at h
      simp only [Bool.false_eq_true, if_false, Option.map_eq_some_iff] at h
      obtain ⟨⟨j, u⟩, hj, he⟩ := h
      simp at he
      obtain ⟨rfl, rfl⟩ := he
      have ih := mdel_erase hn.2 hj
      simp only [List.eraseIdx_cons_succ, ih, mdel, List.filter_cons, hk]
      simp
    · rw [hk] at h
      simp at h
      obtain ⟨rfl, rfl⟩ := h
      have hke : k = e.k := by simpa using hk
      have hr : mdel r k = r := List.filter_eq_self.2 fun e' he' => by
        simp
        intro h2
        exact hn.1 (by rw [← hke, h2]; exact List.mem_map_of_mem he')
      simp only [List.eraseIdx_cons_zero, mdel, List.filter_cons, hk]
      exact hr.symm
theorem MOk.del {ms : List ME} {c : Nat} (h : MOk ms c) (k : Int) : MOk (mdel ms k) c :=
  ⟨fun e he => h.lt e (List.mem_filter.1 he).1, h.nd.sublist (List.filter_sublist.map _), h.kd.sublist (List.filter_sublist.map _)⟩
theorem mget_del {ms : List ME} {c : Nat} (h : MOk ms c) (k j : Int) : mget (mdel ms k) j = if j = k then none else mget ms j := by
  by_cases hj : j = k
  · subst hj
    rw [if_pos rfl, mget_none]
    intro e he hk
    have := (List.mem_filter.1 he).2
    simp [hk] at this
  · rw [if_neg hj]
    cases hg : mget ms j with
    | none =>
      rw [mget_none] at hg ⊢
      exact fun e he => hg e (List.mem_filter.1 he).1
    | some v =>
      obtain ⟨e, he, h1, h2⟩ := (mget_iff h).1 hg
      exact (mget_iff (h.del k)).2 ⟨e, List.mem_filter.2 ⟨he, by simp [h1]; exact fun e => hj e.symm⟩, h1, h2⟩

section
variable {P : Program} {w0 : World} {m : Slots} {H F : Heap} {ty : TypeId} {b c : Nat} {ms : List ME} {k : Int}
theorem Eff.mapDel {t et tk : TypeId} {x y : Operand} (hx : evO m x = some (.map (some b))) (hy : evO m y = some (.int .i64 k)) (ht : mapEl P t = some et) (hT : Take (b, mobj ms c) H F) (ok : MOk ms c) :
    Eff P w0 H m ty (.call { callee := .builtin .delete, args := #[x, y], argTypes := #[t, tk] }) (fun _ H' => H' = (b, mobj (mdel ms k) c) :: F) :=
  ⟨by simp [covOp, covCall, cov, hx, hy], fun w d pos af g hw => by
    obtain ⟨kt, h1, h2⟩ := mapEl_spec ht
    have hw' := hw.take hT
    have hb0 := hw'.get _ (.head _)
    have hb := run_getMap (P := P) hb0
    have hf := run_findKey (P := P) (w := w) (ms := ms) (k := k) h2
    have hset : ∀ o, (setObj b o).run P w = .ok () (w.putObj b o) := fun o => by simp only [setObj, Sem.run, World.putObj, hb0]; rfl
    have e : (Builtin.delete_ #[t, tk] ty #[.map (some b), .int .i64 k]).run P w = .ok (.tuple #[]) (w.putObj b (mobj (mdel ms k) c)) := by
      cases hm : mfind k ms 0 with
      | none =>
        rw [hm] at hf
        rw [mdel_self hm]
        simp [Builtin.delete_, run_und w h1, hb, mobj, run_checkKey h2, hf, hset]
      | some p =>
        obtain ⟨i, u⟩ := p
        rw [hm] at hf
        obtain ⟨e0, g1, g2, g3⟩ := mfind_some hm
        have hlt := (List.getElem?_eq_some_iff.1 g1).1
        have he : (ms.map ment).eraseIdx i = (mdel ms k).map ment := by
          rw [← mdel_erase ok.kd hm]
          apply List.ext_getElem?
          intro q
          simp only [List.getElem?_eraseIdx, List.getElem?_map]
          split <;> rfl
        simp [Builtin.delete_, run_und w h1, hb, mobj, run_checkKey h2, hf, hset, he]
    have e2 : (execOp (evS m) ⟨d, .call { callee := .builtin .delete, args := #[x, y], argTypes := #[t, tk] }, ty, pos, af, g⟩).run P w = .ok (.value (.tuple #[])) (w.putObj b (mobj (mdel ms k) c)) := by
      simp [execOp, resolve, invoke, builtin, evS, hx, hy, e]
    rw [e2]
    exact ⟨_, hw'.putObj _, rfl⟩⟩
theorem Val.lookOS {t et : TypeId} {x y : Operand} {v : Value} (hx : evO m x = some (.map (some b))) (hy : evO m y = some (.int .i64 k)) (ht : mapEl P t = some et) (hT : Take (b, mobj ms c) H F) (hg : mget ms k = some v) :
    Val P w0 H m ty (.lookup t x y true) (.tuple [v, .bool true].toArray) :=
  ⟨by simp [covOp, cov, hx, hy], fun w d pos af g hw => by
    obtain ⟨kt, h1, h2⟩ := mapEl_spec ht
    have hb := run_getMap (P := P) ((hw.take hT).get _ (.head _))
    obtain ⟨⟨i, u⟩, hi, hu⟩ := Option.map_eq_some_iff.1 hg
    simp at hu
    subst hu
    have hf := run_findKey (P := P) (w := w) (ms := ms) (k := k) h2
    rw [hi] at hf
    simp [execOp, evS, hx, hy, Instr.lookup, run_und w h1, hb, mobj, run_checkKey h2, hf]⟩
theorem Val.lookO0 {t et : TypeId} {x y : Operand} {z : Value} (hx : evO m x = some (.map (some b))) (hy : evO m y = some (.int .i64 k)) (ht : mapEl P t = some et) (hz : (P.info? et).map (·.zero) = some (some z)) (hT : Take (b, mobj ms c) H F) (hg : mget ms k = none) :
    Val P w0 H m ty (.lookup t x y true) (.tuple [z, .bool false].toArray) :=
  ⟨by simp [covOp, cov, hx, hy], fun w d pos af g hw => by
    obtain ⟨kt, h1, h2⟩ := mapEl_spec ht
    have hb := run_getMap (P := P) ((hw.take hT).get _ (.head _))
    have hi := Option.map_eq_none_iff.1 hg
    have hf := run_findKey (P := P) (w := w) (ms := ms) (k := k) h2
    rw [hi] at hf
    obtain ⟨i, hi1, hi2⟩ := Option.map_eq_some_iff.1 hz
    have hzv : (zeroValue et).run P w = .ok z w := by simp [zeroValue, typeInfo, program, hi1, hi2, Sem.run, Bind.bind, Sem.bind, Pure.pure]
    simp [execOp, evS, hx, hy, Instr.lookup, run_und w h1, hb, mobj, run_checkKey h2, hf, hzv]⟩
/-- how many entries -/
theorem Val.lenMp {x : Operand} {t et : TypeId} (hx : evO m x = some (.map (some b))) (ht : mapEl P t = some et) (hT : Take (b, mobj ms c) H F) : Val P w0 H m ty (.call { callee := .builtin .len, args := #[x], argTypes := #[t] }) (.int .i64 (ms.length : Nat)) :=
  ⟨by simp [covOp, covCall, cov, hx], fun w d pos af g hw => by
    obtain ⟨kt, h1, h2⟩ := mapEl_spec ht
    have hb := run_getMap (P := P) ((hw.take hT).get _ (.head _))
    simp [execOp, resolve, invoke, builtin, evS, hx, Builtin.len_, Builtin.lenOf, run_und w h1, hb, mobj, goInt]⟩
def mapTy (P : Program) (t : TypeId) : Bool := match P.underlying t with
  | some (.map _ _) => true
  | _ => false
theorem eq_map {t : TypeId} {p : Option Nat} (w : World) (ht : mapTy P t = true) : (Op.equal t (.map p) (.map none)).run P w = .ok p.isNone w := by
  unfold mapTy at ht
  split at ht
  · rename_i q q' hu
    cases p <;> (rw [equal_unf, Op.equalIn.eq_2, Sem.run_bind, run_und w hu]; rfl)
  · cases ht
theorem Val.eqlMN {t u : TypeId} {x y : Operand} {p : Option Nat} (hx : evO m x = some (.map p)) (hy : evO m y = some (.map none)) (ht : mapTy P t = true) : Val P w0 H m ty (.binOp .eql t x y u) (.bool p.isNone) :=
  Val.binV hx hy (by simp) (by simp) fun w => by
    have := eq_map (p := p) w ht
    simp [binOp, this]
/-- a function of the outside that only computes -/
theorem CallV.extern {f : FuncId} {fn : Func} {e : Array Value → Sem Value} {args : List Value} {v : Value} (hf : P.funcs[f]? = some fn) (hn : (fn.name == "runtime.NumGoroutine") = false) (hb : fn.body.isNone = true) (h0 : (Extern.findNext fn).isNone = true) (he : Extern.find fn = some e)
    (hr : ∀ w, (e args.toArray).run P w = .ok v w) : CallV P w0 (.func (.func f) #[] #[]) args H (fun r H' => r = v ∧ H' = H) := by
  intro w hw
  have e1 : ((do let d ← Deferred.ofValue (.func (.func f) #[] #[]) args.toArray; invoke d.target d.args : Sem Next).run P w) = .ok (.value v) w := by
    have h0' : Extern.findNext fn = none := by simpa using h0
    have hc := run_callFunc_extern (P := P) hf hn hb h0' he args.toArray w
    rw [hr w] at hc
    simp only [Deferred.ofValue, invoke, Bind.bind, Sem.bind, Pure.pure]
    rw [show (#[] ++ args.toArray ++ #[] : Array Value) = args.toArray by simp]
    exact hc
  rw [e1]
  exact ⟨_, hw, rfl, rfl⟩
end
end Go.Proofs.YthamkgghnjenhaaGreat
