/- Chapter 37: own contracts of the library: Join, Index, Count, the sorted keys of a map. -/
import Derived.Test.YthgdajiipojnoaaGreatDoorShelf
import Derived.Test.YthgdajiipojnoaaGreatDoorIter
import Derived.Test.YthgdajiipojnoaaGreatDoorGl22
import Derived.Test.YthgdajiipojnoaaGreatDoorGl30
import Derived.Test.YthgdajiipojnoaaGreatDoorGl17
import Derived.StringKeys
namespace Go.Proofs.YthgdajiipojnoaaGreatDoor
open Go.Gl Go.Sort Go.RowKit Go.Maps
set_option linter.unusedVariables false
set_option linter.unusedSimpArgs false
def insS (x : List UInt8) : List (List UInt8) → List (List UInt8)
  | [] => [x]
  | y :: t => if x ≤ y then x :: y :: t else y :: insS x t
def sortS : List (List UInt8) → List (List UInt8)
  | [] => []
  | x :: t => insS x (sortS t)
theorem insS_perm (x : List UInt8) : ∀ l, (insS x l).Perm (x :: l)
  | [] => .refl _
  | y :: t => by
    unfold insS
    split
    · exact .refl _
    · exact ((insS_perm x t).cons y).trans (.swap x y t)
theorem sortS_perm : ∀ l, (sortS l).Perm l
  | [] => .refl _
  | x :: t => (insS_perm x _).trans ((sortS_perm t).cons x)
theorem le_of_not {x y : List UInt8} (h : ¬ x ≤ y) : y ≤ x := (List.le_total x y).resolve_left h
theorem insS_sorted (x : List UInt8) : ∀ l, l.Pairwise (· ≤ ·) → (insS x l).Pairwise (· ≤ ·)
  | [], _ => by simp [insS]
  | y :: t, h => by
    obtain ⟨h1, h2⟩ := List.pairwise_cons.1 h
    unfold insS
    split
    · rename_i hx
      refine List.pairwise_cons.2 ⟨fun z hz => ?_, h⟩
      rcases List.mem_cons.1 hz with rfl | hz
      · exact hx
      · exact List.le_trans hx (h1 z hz)
    · rename_i hx
      refine List.pairwise_cons.2 ⟨fun z hz => ?_, insS_sorted x t h2⟩
      rcases List.mem_cons.1 ((insS_perm x t).mem_iff.1 hz) with rfl | hz
      · exact le_of_not hx
      · exact h1 z hz
theorem sortS_sorted : ∀ l, (sortS l).Pairwise (· ≤ ·)
  | [] => .nil
  | x :: t => insS_sorted x _ (sortS_sorted t)
theorem sortS_len (l : List (List UInt8)) : (sortS l).length = l.length := (sortS_perm l).length_eq
theorem eq_of_perm : ∀ (a b : List (List UInt8)), a.Perm b → a.Pairwise (· ≤ ·) → b.Pairwise (· ≤ ·) → a = b
  | [], b, h, _, _ => (List.nil_perm.1 h).symm
  | x :: a, [], h, _, _ => by have := h.length_eq; simp at this
  | x :: a, y :: b, h, ha, hb => by
    obtain ⟨a1, a2⟩ := List.pairwise_cons.1 ha
    obtain ⟨b1, b2⟩ := List.pairwise_cons.1 hb
    have hxy : x = y := by
      have h1 : x ∈ y :: b := h.mem_iff.1 (by simp)
      have h2 : y ∈ x :: a := h.mem_iff.2 (by simp)
      rcases List.mem_cons.1 h1 with h1 | h1
      · exact h1
      rcases List.mem_cons.1 h2 with h2 | h2
      · exact h2.symm
      exact List.le_antisymm (a1 y h2) (b1 x h1)
    subst hxy
    rw [eq_of_perm a b (List.perm_cons x |>.1 h) a2 b2]
theorem mergeSort_eq (l : List (List UInt8)) : (l.mergeSort fun x y => decide (x ≤ y)) = sortS l := by
  refine eq_of_perm _ _ ((List.mergeSort_perm _ _).trans (sortS_perm l).symm) ?_ (sortS_sorted l)
  have := List.pairwise_mergeSort (le := fun x y : List UInt8 => decide (x ≤ y)) (fun a b c h1 h2 => by simp only [decide_eq_true_eq] at *; exact List.le_trans h1 h2) (fun a b => by simp only [Bool.or_eq_true, decide_eq_true_eq]; exact List.le_total a b) l
  exact this.imp (fun h => by simpa using h)
def strings_Join (n : Nat) (e_ : List (List UInt8)) (s_ : List UInt8) : Option (List UInt8) :=
  chk (e_.length ≤ 137438953472 ∧ (Lib.join e_ s_).length ≤ 140737488355328) (some (Lib.join e_ s_))
theorem c_strings_Join (n : Nat) (M : Bs) (w0 : World) (hM : ∀ b, M b → b < w0.heap.size) (e_ : List (List UInt8)) (A : Option Addr) (c : Nat) (h : SlR Rep.str M w0 A e_.length c e_) (s_ : List UInt8) (ls : s_.length ≤ 9223372036854775807) (r : List UInt8) (hg : strings_Join n e_ s_ = some r) :
    Calls Tryz.prog 23 [.slice A e_.length c, .string (bs s_)].toArray w0 (Ret noB w0 fun v w => v = .string (bs r) ∧ r.length ≤ 9223372036854775807) := by
  obtain ⟨⟨h1, h2⟩, hg⟩ := chk_some hg
  obtain rfl := Option.some.inj hg
  have e1 : (e_.map bs).map (fun b => b.data.toList) = e_ := by
    rw [List.map_map]
    conv => rhs; rw [← List.map_id e_]
    exact List.map_congr_left fun x _ => by simp [bs]
  have e2 : (bs s_).data.toList = s_ := by simp [bs]
  cases e_ with
  | nil =>
    refine (Tryz.strings_Join_none A c (bs s_) w0).mono ?_
    rintro e w' ⟨rfl, rfl⟩
    exact ⟨_, rfl, Keeps.refl _ _, rfl, by simp [Lib.join_nil]⟩
  | cons x xs =>
    obtain ⟨q, rfl⟩ := h.some_ (by simp)
    obtain ⟨cs, hr, hl, hc, _⟩ := h.cells
    have hcell : ∀ j y, (x :: xs)[j]? = some y → w0.cell? (q.add j) = some (.string (bs y)) := fun j y hy => by
      have h3 := hr.at_ j y hy
      have h4 : (cs.drop (j * 1)).take 1 = [.string (bs y)] := h3.1
      rw [Nat.mul_one] at h4
      exact hc j _ (take1 h4)
    have h0 := hcell 0 x rfl
    have hq : q = ⟨q.block, q.off, none⟩ := by
      have h0' : w0.cell? q = some (.string (bs x)) := h0
      unfold World.cell? at h0'
      obtain ⟨qb, qo, qs⟩ := q
      cases qs with
      | none => rfl
      | some z => split at h0' <;> simp at h0'
    have hb : q.block < w0.heap.size := cell_lt (p := q) h0
    have hX := Tryz.strings_Join q.block q.off c ((x :: xs).map bs) (bs s_) w0 (fun j y hy => by
      rw [List.getElem?_map] at hy
      cases hz : (x :: xs)[j]? with
      | none => rw [hz] at hy; cases hy
      | some z =>
        rw [hz] at hy
        have hy' : bs z = y := by simpa using hy
        have h5 := hcell j z hz
        rw [hq, add_lit] at h5
        rw [← hy']
        exact h5) hb (by rw [List.length_map]; omega) (by rw [List.length_map]; exact h.cap) (by rw [e1, e2]; exact h2)
    rw [e1, e2, List.length_map, ← hq] at hX
    refine hX.mono ?_
    rintro e w' ⟨rfl, hbl⟩
    exact ⟨_, rfl, Keeps.of_below hbl, rfl, by omega⟩

def stringslite_Index (n : Nat) (s_ sub_ : List UInt8) : Option Int := match sub_ with
  | [c] => some (Lib.indexByte s_ c)
  | _ => none
theorem c_stringslite_Index (n : Nat) (M : Bs) (w0 : World) (hM : ∀ b, M b → b < w0.heap.size) (s_ : List UInt8) (l1 : s_.length ≤ 9223372036854775807) (sub_ : List UInt8) (l2 : sub_.length ≤ 9223372036854775807) (r : Int) (hg : stringslite_Index n s_ sub_ = some r) :
    Calls Tryz.prog 72 [.string (bs s_), .string (bs sub_)].toArray w0 (Ret noB w0 fun v w => v = .int .i64 r) := by
  unfold stringslite_Index at hg
  split at hg
  · rename_i c
    obtain rfl := Option.some.inj hg
    refine (Tryz.stringslite_Index_one (bs s_) c w0).mono ?_
    rintro e w' ⟨rfl, rfl⟩
    exact ⟨_, rfl, Keeps.refl _ _, by simp [bs]⟩
  · cases hg

def strings_Index (n : Nat) (s_ sub_ : List UInt8) : Option Int := match sub_ with
  | [c] => some (Lib.indexByte s_ c)
  | _ => none
theorem c_strings_Index (n : Nat) (M : Bs) (w0 : World) (hM : ∀ b, M b → b < w0.heap.size) (s_ : List UInt8) (l1 : s_.length ≤ 9223372036854775807) (sub_ : List UInt8) (l2 : sub_.length ≤ 9223372036854775807) (r : Int) (hg : strings_Index n s_ sub_ = some r) :
    Calls Tryz.prog 76 [.string (bs s_), .string (bs sub_)].toArray w0 (Ret noB w0 fun v w => v = .int .i64 r) := by
  unfold strings_Index at hg
  split at hg
  · rename_i c
    obtain rfl := Option.some.inj hg
    refine (Tryz.strings_Index_one (bs s_) c w0).mono ?_
    rintro e w' ⟨rfl, rfl⟩
    exact ⟨_, rfl, Keeps.refl _ _, by simp [bs]⟩
  · cases hg

def strings_Count (n : Nat) (s_ sub_ : List UInt8) : Option Int := match sub_ with
  | [c] => some (Lib.countByte s_ c)
  | _ => none
theorem c_strings_Count (n : Nat) (M : Bs) (w0 : World) (hM : ∀ b, M b → b < w0.heap.size) (s_ : List UInt8) (l1 : s_.length ≤ 9223372036854775807) (sub_ : List UInt8) (l2 : sub_.length ≤ 9223372036854775807) (r : Int) (hg : strings_Count n s_ sub_ = some r) :
    Calls Tryz.prog 75 [.string (bs s_), .string (bs sub_)].toArray w0 (Ret noB w0 fun v w => v = .int .i64 r) := by
  unfold strings_Count at hg
  split at hg
  · rename_i c
    obtain rfl := Option.some.inj hg
    refine (Tryz.strings_Count_one (bs s_) c w0).mono ?_
    rintro e w' ⟨rfl, rfl⟩
    exact ⟨_, rfl, Keeps.refl _ _, by simp [bs]⟩
  · cases hg

theorem ownsRow_shape {w : World} {base : Nat} {e : TypeId} {sz : Nat} {v : Value} {n : Nat} {xs : List Value} (h : w.ownsRow base e sz v n xs) : ∃ A c, v = .slice A n c := by
  rcases h.2 with ⟨rfl, rfl⟩ | ⟨g, cap, cur, rfl, _⟩
  · exact ⟨none, 0, rfl⟩
  · exact ⟨_, _, rfl⟩
theorem ownsRow_zero {w : World} {base : Nat} {e : TypeId} {sz : Nat} {v : Value} {n : Nat} {xs : List Value} (h : w.ownsRow base e sz v n xs) : w.ownsRow 0 e sz v n xs := by
  refine ⟨h.1, ?_⟩
  rcases h.2 with h1 | ⟨g, cap, cur, h1, _, h2⟩
  · exact .inl h1
  · exact .inr ⟨g, cap, cur, h1, Nat.zero_le _, h2⟩
theorem ownsRow_from {w : World} {base : Nat} {e : TypeId} {sz : Nat} {p : Addr} {c : Nat} {n m : Nat} {xs : List Value} (h : w.ownsRow base e sz (.slice (some p) m c) n xs) : base ≤ p.block := by
  rcases h.2 with ⟨h1, _⟩ | ⟨g, cap, cur, h1, h2, _⟩
  · cases h1
  · simp at h1
    rw [h1.1]
    exact h2
def sortedKeys (n : Nat) (kx : List (List UInt8 × Int)) : Option (List (List UInt8)) :=
  chk (kx.length ≤ 1099511627776 ∧ ∀ p ∈ kx, p.1.length ≤ 9223372036854775807) (some (sortS (kx.map (·.1))))
theorem rg_key {x : MapEntry} {p : List UInt8} (hk : x.key = .string (bs p)) (hp : p.length ≤ 9223372036854775807) : WideElems.rd (H := Unit) Tryz.prog 9 (fun _ => some (.nil, [])) x = some (.string p, .nil) := by
  have h1 : keyOf Tryz.prog 9 x.key = some (.string p) := by
    rw [hk, WideMaps.keyOf_string_mk Tryz.underlying9 (by simpa [bs, maxLen, ByteArray.size] using hp)]
    simp [bs]
  simp [WideElems.rd, h1]
theorem c_sortedKeys (n : Nat) (M : Bs) (w : World) (hM : ∀ b, M b → b < w.heap.size) (B b : Nat) (kx : List (List UInt8 × Int)) (hB : w.heap[B]? = some (.cells #[.map (some b)] 49 (0, 0))) (hm : MapR (Rep.num .i64) M w b kx) (r : List (List UInt8)) (hg : sortedKeys n kx = some r) :
    Calls Tryz.prog 30 [.func (.func 53) #[] #[.pointer (some ⟨B, 0, none⟩)]].toArray w (Ret noB w fun v w' => ∃ (A : Option Addr) (c : Nat), v = .slice A r.length c ∧ SlR Rep.str M w' A r.length c r) := by
  obtain ⟨⟨hl, hk⟩, hg⟩ := chk_some hg
  obtain rfl := Option.some.inj hg
  obtain ⟨E, clock, ⟨hMb, hE⟩, hst, hleft⟩ := mapRF_num (k := .i64) hm
  have hall : E.toList.map (fun e => (e.key, e.val)) = kx.map fun p => (Value.string (bs p.1), Value.int .i64 p.2) := by
    have e1 : (E.toList.filter fun e => !(#[] : Array Nat).contains e.born) = E.toList := List.filter_eq_self.2 (fun x _ => by simp)
    unfold LeftIs at hleft
    rwa [e1] at hleft
  have hlen : E.toList.length = kx.length := by simpa using congrArg List.length hall
  have hrd : E.toList.map (WideElems.rg (H := Unit) Tryz.prog 9 (fun _ => some (.nil, []))) = kx.map fun p => (Lit.string p.1, DataW.nil) := by
    refine List.ext_getElem? fun i => ?_
    rw [List.getElem?_map, List.getElem?_map]
    have h1 := congrArg (fun l => l[i]?) hall
    simp only [List.getElem?_map] at h1
    cases hx : E.toList[i]? with
    | none =>
      rw [hx] at h1
      cases hp : kx[i]? with
      | none => rfl
      | some p => rw [hp] at h1; cases h1
    | some x =>
      rw [hx] at h1
      cases hp : kx[i]? with
      | none => rw [hp] at h1; cases h1
      | some p =>
        rw [hp] at h1
        simp only [Option.map_some, Option.some.injEq, Prod.mk.injEq] at h1
        simp only [Option.map_some, Option.some.injEq]
        unfold WideElems.rg
        rw [rg_key h1.1 (hk p (List.mem_of_getElem? hp))]
        rfl
  have hown : w.ownsMap (H := Unit) Tryz.prog 9 (fun _ => some (.nil, [])) b E.size (.map ((E.toList.map (WideElems.rg Tryz.prog 9 (fun _ => some (.nil, [])))).foldr DataW.insert [])) := by
    refine ⟨E, clock, hE, ⟨?_, hst, fun x hx => ?_⟩, Nat.le_refl _, rfl⟩
    · have : E.size = kx.length := by simpa using hlen
      rw [this]; simp only [maxLen]; omega
    · obtain ⟨i, hi⟩ := List.getElem?_of_mem hx
      have h1 := congrArg (fun l => l[i]?) hall
      simp only [List.getElem?_map, hi] at h1
      cases hp : kx[i]? with
      | none => rw [hp] at h1; cases h1
      | some p =>
        rw [hp] at h1
        simp only [Option.map_some, Option.some.injEq, Prod.mk.injEq] at h1
        exact ⟨_, rg_key h1.1 (hk p (List.mem_of_getElem? hp))⟩
  rw [hrd] at hown
  have hsz : Maps.size (DataW.map ((kx.map fun p => (Lit.string p.1, (DataW.nil : DataW Unit))).foldr DataW.insert [])) = kx.length := by
    rw [size_eq, (WideShapes.sorted_perm _).length_eq, List.length_map]
  have hks : (strKeys (DataW.map ((kx.map fun p => (Lit.string p.1, (DataW.nil : DataW Unit))).foldr DataW.insert []))).Perm (kx.map (·.1)) := by
    show (List.map (fun p : Lit × DataW Unit => strOf p.1) _).Perm _
    refine ((WideShapes.sorted_perm _).map _).trans ?_
    rw [List.map_map]
    exact List.Perm.refl _
  have hcell : w.cell? ⟨B, 0, none⟩ = some (.map (some b)) := by simp [World.cell?, hB]
  have hseq := AnyZ.keys_gives (ρ := Tryz.keys31_ren) { Tryz.keys31 with } Fence.wide 2 trivial rfl (by omega) B b E.size _ w (block_lt hB) hcell hown
  have hX := AnyZ.sorted_in Tryz.sorted30 Fence.wide 5 trivial trivial trivial trivial rfl (by omega) (Tryz.sorts30 _) (enters_of Tryz.func52 (by kernel_rfl) rfl) 53 #[.pointer (some ⟨B, 0, none⟩)] trivial (enters_of Tryz.func53 (by kernel_rfl) rfl) _ _ (by rw [hsz]; simp only [maxLen]; omega) (by rw [hsz]; omega) w hseq
  refine (callsIn_wide.1 hX).mono ?_
  rintro e w' ⟨v, ss, rfl, hp, hrow, hnil, hbl⟩
  have hperm := hp.trans hks
  have hss : (ss.mergeSort fun x y => decide (x ≤ y)) = sortS (kx.map (·.1)) := by
    rw [mergeSort_eq]
    exact eq_of_perm _ _ ((sortS_perm ss).trans (hperm.trans (sortS_perm _).symm)) (sortS_sorted _) (sortS_sorted _)
  rw [hss] at hrow
  have hln : ss.length = (sortS (kx.map (·.1))).length := by rw [sortS_len]; exact hperm.length_eq
  rw [hln] at hrow
  obtain ⟨A, c, rfl⟩ : ∃ A c, v = .slice A (sortS (kx.map (·.1))).length c := ownsRow_shape hrow
  refine ⟨_, rfl, Keeps.of_below hbl, A, c, rfl, ?_⟩
  have hh : (Ob.row A (sortS (kx.map (·.1))).length c 9 1 ((sortS (kx.map (·.1))).map encStr)).holds w' := ownsRow_zero hrow
  refine row_slR (R := Rep.str) hh ?_ (by decide) (fun q hq hMq => ?_)
  · refine ⟨by simp [Rep.str], fun i x hx => ?_⟩
    have hxl : x.length ≤ 9223372036854775807 := by
      have hxm := List.mem_of_getElem? hx
      have := (sortS_perm _).mem_iff.1 hxm
      obtain ⟨p, hp, rfl⟩ := List.mem_map.1 this
      exact hk p hp
    show ((List.drop (i * 1) _).take 1) = [Value.string (bs x)] ∧ _
    refine ⟨?_, hxl⟩
    rw [Nat.mul_one]
    have hxi : ((sortS (kx.map (·.1))).map encStr)[i]? = some (encStr x) := by rw [List.getElem?_map, hx]; rfl
    obtain ⟨h1, h2⟩ := List.getElem?_eq_some_iff.1 hxi
    rw [List.drop_eq_getElem_cons h1, h2]
    rfl
  · obtain ⟨p, rfl, rfl⟩ := hq
    have := ownsRow_from hrow
    have := hM _ hMq
    omega
theorem eqW (a : List UInt8) (x : Int) (b : List UInt8) (y : Int) (w' : World) : (Op.equalIn 10000 39 (.agg #[.string (bs a), .int .i64 x]) (.agg #[.string (bs b), .int .i64 y])).run Tryz.prog w' = .ok (decide (a = b ∧ x = y)) w' := by
  have hu : Tryz.prog.underlying 39 = some (.struct (Tryz.prog.fieldsOf 39)) := by kernel_rfl
  have hf : (Tryz.prog.fieldsOf 39).toList = [⟨ "Feature", 9, 0, false,  "",  "", 0⟩, ⟨ "Value", 3, 1, false,  "",  "", 16⟩] := by kernel_rfl
  rw [run_equalIn_struct w' 9999 39 _ _ hu (by kernel_rfl), hf]
  have e1 : ((bs a).toList == (bs b).toList) = decide (a = b) := by
    rw [ByteArray.toList_eq, ByteArray.toList_eq]
    simp [bs]
    by_cases h : a = b <;> simp [h]
  simp [Op.eqFields, part, run_equalIn_string, run_equalIn_int, Tryz.underlying9, Tryz.underlying3, e1]
  by_cases h1 : a = b <;> by_cases h2 : x = y <;> simp [h1, h2]
theorem c_mapsKeys (w : World) (b : Nat) : Calls Tryz.prog 31 [.map (some b)].toArray w (fun e w' => ∃ v, e = .returned v ∧ Keeps noB w w' ∧ ∃ ob : Ob, ob.holds w' ∧ (∀ q, ob.ids q → w.heap.size ≤ q) ∧ ∃ B, ob = Ob.box B [.map (some b)] 49 ∧ v = .func (.func 53) #[] #[.pointer (some ⟨B, 0, none⟩)]) := by
  refine (callsIn_wide.1 (Tryz.maps_Keys_31 (some b) w)).mono ?_
  rintro e w' ⟨rfl, rfl⟩
  refine ⟨_, rfl, Keeps.alloc _ _ _, Ob.box w.heap.size [.map (some b)] 49, ?_, fun q hq => Nat.le_of_eq hq.symm, _, rfl, rfl⟩
  show (w.alloc _).heap[w.heap.size]? = _
  rw [heap_new]
end Go.Proofs.YthgdajiipojnoaaGreatDoor
