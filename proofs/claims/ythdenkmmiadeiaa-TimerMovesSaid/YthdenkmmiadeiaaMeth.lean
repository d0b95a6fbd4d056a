/- Which function a method of timers is, called through heap.Interface. -/
import Derived.Test.YthdenkmmiadeiaaTim3
namespace Go.Proofs.Ythdenkmmiadeiaa
set_option linter.unusedSimpArgs false
set_option linter.unusedVariables false
open Go.RowKit

theorem info_bind {P : Program} {t : TypeId} {name : String} {f : FuncId} {b : Bool} (h : (P.info? t).bind (fun i => (i.methods.find? (·.name == name)).map (fun m => (m.path.toList.length, m.func))) = some (0, some (f, b))) :
    ∃ i m, P.info? t = some i ∧ i.methods.find? (·.name == name) = some m ∧ m.path = #[] ∧ m.func = some (f, b) := by
  cases hi : P.info? t with
  | none => rw [hi] at h; cases h
  | some i =>
    rw [hi] at h
    cases hm : i.methods.find? (·.name == name) with
    | none => simp only [Option.bind_some, hm, Option.map_none] at h; cases h
    | some m =>
      simp only [Option.bind_some, hm, Option.map_some] at h
      injection h with h
      injection h with h1 h2
      exact ⟨i, m, rfl, hm, by simpa using h1, h2⟩

theorem chk_ptr (T : Array TypeId) (t : TypeId) (a : Addr) (x y : String) : Builtin.ssaWrapNilChk_ T t #[.pointer (some a), strVal x, strVal y] = pure (.pointer (some a)) := rfl
theorem run_vmeth {P : Program} {t e : TypeId} {name : String} {f : FuncId} (fuel g : Nat) (w : World) (v : Value)
    (h : (P.info? t).bind (fun i => (i.methods.find? (·.name == name)).map (fun m => (m.path.toList.length, m.func))) = some (0, some (f, false)))
    (ht : P.underlying t = some (.pointer e)) (hl : (loadVar e ⟨g, 0, none⟩).run P w = .ok v w) : (method (fuel + 1) t (.pointer (some ⟨g, 0, none⟩)) name).run P w = .ok (f, v) w := by
  obtain ⟨i, m, hi, hm, hp, hf⟩ := info_bind h
  simp [method, typeInfo, hi, hm, hp, hf, follow, receiverAt, run_underlying ht, Place.get, chk_ptr, asAddr, hl]
theorem run_pmeth {P : Program} {t e : TypeId} {name : String} {f : FuncId} (fuel g : Nat) (w : World)
    (h : (P.info? t).bind (fun i => (i.methods.find? (·.name == name)).map (fun m => (m.path.toList.length, m.func))) = some (0, some (f, true)))
    (ht : P.underlying t = some (.pointer e)) : (method (fuel + 1) t (.pointer (some ⟨g, 0, none⟩)) name).run P w = .ok (f, .pointer (some ⟨g, 0, none⟩)) w := by
  obtain ⟨i, m, hi, hm, hp, hf⟩ := info_bind h
  simp [method, typeInfo, hi, hm, hp, hf, follow, receiverAt, run_underlying ht, Place.get, asAddr]

theorem load_heap (g : Nat) (w : World) (A : Option Addr) (n c : Nat) (h : w.cell? ⟨g, 0, none⟩ = some (.slice A n c)) : (loadVar 123 ⟨g, 0, none⟩).run Try.prog w = .ok (.slice A n c) w := by
  have hi : (Try.prog.info? 123).map (·.size) = some 1 := by kernel_rfl
  obtain ⟨i, hi, hs⟩ : ∃ i, Try.prog.info? 123 = some i ∧ i.size = 1 := by
    cases hh : Try.prog.info? 123 with
    | none => rw [hh] at hi; cases hi
    | some i => rw [hh] at hi; exact ⟨i, rfl, by simpa using hi⟩
  simp [loadVar, sizeOf, typeInfo, hi, hs, run_underlying Try.underlying123, go_sem, h]
theorem run_less (g : Nat) (w : World) (A : Option Addr) (n c : Nat) (h : w.cell? ⟨g, 0, none⟩ = some (.slice A n c)) : ∀ k, k ≠ 0 → (method k 136 (.pointer (some ⟨g, 0, none⟩)) "Less").run Try.prog w = .ok (178, .slice A n c) w := fun k hk => by
  obtain ⟨fuel, rfl⟩ : ∃ f, k = f + 1 := ⟨k - 1, by omega⟩
  exact run_vmeth fuel g w _ (by kernel_rfl) Try.underlying136 (load_heap g w A n c h)
theorem run_swap (g : Nat) (w : World) (A : Option Addr) (n c : Nat) (h : w.cell? ⟨g, 0, none⟩ = some (.slice A n c)) : ∀ k, k ≠ 0 → (method k 136 (.pointer (some ⟨g, 0, none⟩)) "Swap").run Try.prog w = .ok (179, .slice A n c) w := fun k hk => by
  obtain ⟨fuel, rfl⟩ : ∃ f, k = f + 1 := ⟨k - 1, by omega⟩
  exact run_vmeth fuel g w _ (by kernel_rfl) Try.underlying136 (load_heap g w A n c h)
theorem run_len (g : Nat) (w : World) (A : Option Addr) (n c : Nat) (h : w.cell? ⟨g, 0, none⟩ = some (.slice A n c)) : ∀ k, k ≠ 0 → (method k 136 (.pointer (some ⟨g, 0, none⟩)) "Len").run Try.prog w = .ok (177, .slice A n c) w := fun k hk => by
  obtain ⟨fuel, rfl⟩ : ∃ f, k = f + 1 := ⟨k - 1, by omega⟩
  exact run_vmeth fuel g w _ (by kernel_rfl) Try.underlying136 (load_heap g w A n c h)
theorem run_push (g : Nat) (w : World) : ∀ k, k ≠ 0 → (method k 136 (.pointer (some ⟨g, 0, none⟩)) "Push").run Try.prog w = .ok (182, .pointer (some ⟨g, 0, none⟩)) w := fun k hk => by
  obtain ⟨fuel, rfl⟩ : ∃ f, k = f + 1 := ⟨k - 1, by omega⟩
  exact run_pmeth fuel g w (by kernel_rfl) Try.underlying136
theorem run_pop (g : Nat) (w : World) : ∀ k, k ≠ 0 → (method k 136 (.pointer (some ⟨g, 0, none⟩)) "Pop").run Try.prog w = .ok (181, .pointer (some ⟨g, 0, none⟩)) w := fun k hk => by
  obtain ⟨fuel, rfl⟩ : ∃ f, k = f + 1 := ⟨k - 1, by omega⟩
  exact run_pmeth fuel g w (by kernel_rfl) Try.underlying136
end Go.Proofs.Ythdenkmmiadeiaa
