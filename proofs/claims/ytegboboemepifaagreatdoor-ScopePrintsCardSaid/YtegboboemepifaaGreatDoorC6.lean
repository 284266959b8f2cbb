/- The printed form of a scope tree -/
import Derived.Test.YtegboboemepifaaGreatDoorC5
namespace Go.Proofs.YtegboboemepifaaGreatDoor
open Go.Gl
set_option linter.unusedVariables false
set_option linter.unusedSimpArgs false
def argF (m : MRS) (plug : List Int) (F : Int → List UInt8) (a : Arg) : List UInt8 := (a.Role ++ [32]) ++ (if 0 ≤ atv m plug a.Var then F (atv m plug a.Var) else (ix m.Vars a.Var).getD [] ++ dec10 20 a.Var.toNat)
def epF (m : MRS) (plug : List Int) (F : Int → List UInt8) (x : EP) : List UInt8 := ((x.Pred ++ [40]) ++ Lib.join (x.Args.map (argF m plug F)) [44, 32]) ++ [41]
def labF (m : MRS) (plug : List Int) (F : Int → List UInt8) (l : Int) : List UInt8 := Lib.join ((m.Rels.filter fun x => decide (x.Label = l)).map (epF m plug F)) [32, 38, 32]
def frm (m : MRS) (plug : List Int) : Nat → Int → List UInt8
  | 0, _ => []
  | d + 1, l => labF m plug (frm m plug d) l
theorem join_le (L : List (List UInt8)) (sep : List UInt8) : (Lib.join L sep).length ≤ (L.map fun x => x.length + sep.length).sum := by
  cases L with
  | nil => simp [Lib.join_nil]
  | cons x r =>
    rw [Lib.join_cons]
    have : (Lib.joinTail sep r).length = (r.map fun x => x.length + sep.length).sum := by
      unfold Lib.joinTail
      induction r with
      | nil => rfl
      | cons y r ih =>
        rw [List.map_cons, List.flatten_cons, List.length_append, ih, List.length_append, List.map_cons, List.sum_cons]
        omega
    rw [List.length_append, this, List.map_cons, List.sum_cons]
    omega
theorem join_snoc (D : List (List UInt8)) (e sep : List UInt8) : Lib.join (D ++ [e]) sep = if D = [] then e else Lib.join D sep ++ sep ++ e := by
  cases D with
  | nil => rw [if_pos rfl, List.nil_append, Lib.join_one]
  | cons x r =>
    rw [if_neg (by simp), List.cons_append, Lib.join_cons, Lib.join_cons]
    unfold Lib.joinTail
    simp [List.append_assoc]
theorem join_ne {D : List (List UInt8)} (sep : List UInt8) (hD : D ≠ []) (he : ∀ x ∈ D, x ≠ []) : Lib.join D sep ≠ [] := by
  cases D with
  | nil => exact absurd rfl hD
  | cons x r =>
    rw [Lib.join_cons]
    intro h
    exact he x (by simp) (List.append_eq_nil_iff.1 h).1
theorem argF_len {m : MRS} (g : Good m) {plug : List Int} {F : Int → List UInt8} {B : Nat} {a : Arg} (ha : a.Role.length ≤ 32) (hF : 0 ≤ atv m plug a.Var → (F (atv m plug a.Var)).length ≤ B) : (argF m plug F a).length ≤ 54 + if 0 ≤ atv m plug a.Var then B else 0 := by
  unfold argF
  have hv : ((ix m.Vars a.Var).getD []).length ≤ 1 := by
    cases h : ix m.Vars a.Var with
    | none => simp
    | some s =>
      have : s ∈ m.Vars := by
        unfold ix at h
        split at h
        · exact List.mem_of_getElem? h
        · cases h
      exact g.srt s this
  have hd := dec10_len 20 a.Var.toNat
  by_cases h0 : 0 ≤ atv m plug a.Var
  · have := hF h0
    simp only [h0, if_true, List.length_append, List.length_cons, List.length_nil]; omega
  · simp only [h0, if_false, List.length_append, List.length_cons, List.length_nil]; omega
theorem args_len {m : MRS} (g : Good m) {plug : List Int} {F : Int → List UInt8} {B : Nat} : ∀ (t : List Arg), (∀ a ∈ t, a.Role.length ≤ 32) → (∀ a ∈ t, 0 ≤ atv m plug a.Var → (F (atv m plug a.Var)).length ≤ B) → ((t.map (argF m plug F)).map fun x => x.length + 2).sum ≤ 56 * t.length + B * ((t.map fun a => atv m plug a.Var).filter fun l => decide (0 ≤ l)).length
  | [], _, _ => by simp
  | a :: t, h1, h2 => by
    have ih := args_len g t (fun x hx => h1 x (by simp [hx])) (fun x hx => h2 x (by simp [hx]))
    have ha := argF_len g (h1 a (by simp)) (h2 a (by simp))
    simp only [List.map_cons, List.sum_cons, List.length_cons, List.filter_cons]
    by_cases h0 : 0 ≤ atv m plug a.Var
    · rw [if_pos h0] at ha
      simp only [h0, decide_true, if_true, List.length_cons, Nat.mul_add, Nat.mul_one]
      omega
    · rw [if_neg h0] at ha
      simp only [h0, decide_false, Bool.false_eq_true, if_false, Nat.mul_add, Nat.mul_one]
      omega
theorem epF_len {m : MRS} (g : Good m) {plug : List Int} {F : Int → List UInt8} {B : Nat} {x : EP} (hx : x ∈ m.Rels) (hF : ∀ a ∈ x.Args, 0 ≤ atv m plug a.Var → (F (atv m plug a.Var)).length ≤ B) : (epF m plug F x).length ≤ 594 + B * (kidsOf m plug x).length := by
  unfold epF
  have h1 := g.prd x hx
  have h2 := join_le (x.Args.map (argF m plug F)) [44, 32]
  have h3 := args_len g x.Args (g.rol x hx) hF
  have h4 := g.na x hx
  have h5 : ((x.Args.map (argF m plug F)).map fun y => y.length + ([44, 32] : List UInt8).length).sum = ((x.Args.map (argF m plug F)).map fun y => y.length + 2).sum := rfl
  rw [h5] at h2
  simp only [List.length_append, List.length_cons, List.length_nil]
  unfold kidsOf
  omega
theorem rels_len {m : MRS} (g : Good m) {plug : List Int} {F : Int → List UInt8} {B : Nat} {l : Int} : ∀ (t : List EP), (∀ x ∈ t, x ∈ m.Rels) → (∀ x ∈ t, x.Label = l → ∀ a ∈ x.Args, 0 ≤ atv m plug a.Var → (F (atv m plug a.Var)).length ≤ B) → (((t.filter fun x => decide (x.Label = l)).map (epF m plug F)).map fun x => x.length + 3).sum ≤ 597 * t.length + B * (t.flatMap fun x => if x.Label = l then kidsOf m plug x else []).length
  | [], _, _ => by simp
  | x :: t, h1, h2 => by
    have ih := rels_len g t (fun y hy => h1 y (by simp [hy])) (fun y hy => h2 y (by simp [hy]))
    rw [List.filter_cons, List.flatMap_cons, List.length_cons]
    by_cases hx : x.Label = l
    · have he := epF_len g (h1 x (by simp)) (h2 x (by simp) hx)
      rw [if_pos (by simp [hx]), if_pos hx]
      simp only [List.map_cons, List.sum_cons, List.length_append, Nat.mul_add, Nat.mul_one]
      omega
    · rw [if_neg (by simp [hx]), if_neg hx]
      simp only [List.nil_append, Nat.mul_add, Nat.mul_one]
      omega
theorem labF_len {m : MRS} (g : Good m) {plug : List Int} {F : Int → List UInt8} {B : Nat} {l : Int} (hF : ∀ c ∈ chil m plug l, (F c).length ≤ B) : (labF m plug F l).length ≤ 4776 + B * (chil m plug l).length := by
  unfold labF
  have h2 := join_le ((m.Rels.filter fun x => decide (x.Label = l)).map (epF m plug F)) [32, 38, 32]
  have h3 := rels_len (F := F) (B := B) (l := l) g m.Rels (fun x hx => hx) (fun x hx hl a ha h0 => hF _ (mem_chil.2 ⟨x, hx, hl, a, ha, rfl, h0⟩))
  have h4 := g.nr
  have h5 : (((m.Rels.filter fun x => decide (x.Label = l)).map (epF m plug F)).map fun y => y.length + ([32, 38, 32] : List UInt8).length).sum = (((m.Rels.filter fun x => decide (x.Label = l)).map (epF m plug F)).map fun y => y.length + 3).sum := rfl
  rw [h5] at h2
  unfold chil
  omega
def bnd : Nat → Nat
  | 0 => 0
  | d + 1 => 4776 + 8 * bnd d
theorem bnd_le (d : Nat) (h : d ≤ 9) : bnd d ≤ 1000000000000 := by
  rcases d with _ | _ | _ | _ | _ | _ | _ | _ | _ | _ | d
  all_goals first | omega | decide
theorem chil_few {m : MRS} (g : Good m) {plug : List Int} (hp : ∀ l ∈ plug, isLab m l) (hF : FormP m plug) {l : Int} (hl : l ∈ labs m) : (chil m plug l).length ≤ 8 := by
  have hnd : (chil m plug l).Nodup := by
    rw [List.nodup_iff_count]
    intro c
    by_cases hc : c ∈ chil m plug l
    · have h1 := hF.cnt c (chil_lab g hp hc)
      have h2 : (chil m plug l).count c ≤ ((labs m).flatMap (chil m plug)).count c := by
        have key : ∀ (L : List Int), l ∈ L → (chil m plug l).count c ≤ (L.flatMap (chil m plug)).count c := by
          intro L
          induction L with
          | nil => intro h; simp at h
          | cons y L ih =>
            intro h
            rw [List.flatMap_cons, List.count_append]
            rcases List.mem_cons.1 h with rfl | h
            · omega
            · have := ih h; omega
        exact key _ hl
      split at h1 <;> omega
    · rw [List.count_eq_zero.2 hc]; omega
  have := nodup_len _ (labs m) hnd (fun c hc => chil_lab g hp hc)
  have := labs_len g; have := g.nr
  omega
theorem print_L1_eq (n : Nat) (m : MRS) (g : Good m) (plug : List Int) (F : Int → List UInt8) (B : Nat) (hB : B ≤ 1000000000000) (self : tree → Int → Option (List UInt8)) (x : EP) (hx : x ∈ m.Rels) (hs : ∀ a ∈ x.Args, 0 ≤ atv m plug a.Var → self (tr m plug) (atv m plug a.Var) = some (F (atv m plug a.Var)) ∧ (F (atv m plug a.Var)).length ≤ B) (k : List (List UInt8) → Option (List UInt8)) : ∀ (t : List Arg) (q i : Nat) (out : List (List UInt8)), x.Args.drop i = t → t.length < q → out.length + t.length ≤ 100 →
    scope_tree_print_L1 n (tr m plug) self x k q out i = k (out ++ t.map (argF m plug F))
  | [], q + 1, i, out, h, _, _ => by
    rw [scope_tree_print_L1, if_neg (drop_nil' h)]
    simp
  | a :: t, q + 1, i, out, h, hq, ho => by
    obtain ⟨h1, h2, h3⟩ := drop_cons h
    simp only [List.length_cons] at hq ho
    have ha := List.mem_of_getElem? h2
    have hr := g.arg x hx a ha
    have hro := g.rol x hx a ha
    have hv := g.nv
    obtain ⟨s, hs1, hs2⟩ : ∃ s, ix m.Vars a.Var = some s ∧ s.length ≤ 1 := by
      unfold ix
      rw [if_pos hr.1, List.getElem?_eq_getElem (by omega)]
      exact ⟨_, rfl, g.srt _ (List.getElem_mem _)⟩
    have hd := dec10_len 20 a.Var.toNat
    have hi : strconv_Itoa n a.Var = some (dec10 20 a.Var.toNat) := by
      unfold strconv_Itoa
      rw [chk_true (by omega)]
    have ih := fun out' ho' => print_L1_eq n m g plug F B hB self x hx hs k t q (i + 1) out' h3 (by omega) ho'
    rw [scope_tree_print_L1, if_pos h1]
    simp only [jn_def, tr_m]
    rw [h2, bind_some', hs1, bind_some', hi, bind_some', chk_true (by omega), tr_at m plug hr, bind_some']
    by_cases h0 : 0 ≤ atv m plug a.Var
    · obtain ⟨e1, e2⟩ := hs a ha h0
      have hlen : (F (atv m plug a.Var)).length ≤ 1000000000000 := by omega
      rw [if_pos h0, e1, bind_some', chk_true (by simp; omega), chk_true (by simp; omega), chk_true (by simp; omega), ih _ (by simp; omega)]
      simp [argF, h0]
    · rw [if_neg h0, chk_true (by simp; omega), chk_true (by simp; omega), chk_true (by simp; omega), ih _ (by simp; omega)]
      simp [argF, h0, hs1]
theorem print_L0_eq (n : Nat) (hn : 1000 ≤ n) (m : MRS) (g : Good m) (plug : List Int) (F : Int → List UInt8) (B : Nat) (hB : B ≤ 100000000000) (l : Int) (self : tree → Int → Option (List UInt8)) (hs : ∀ x ∈ m.Rels, x.Label = l → ∀ a ∈ x.Args, 0 ≤ atv m plug a.Var → self (tr m plug) (atv m plug a.Var) = some (F (atv m plug a.Var)) ∧ (F (atv m plug a.Var)).length ≤ B) (k : List (List UInt8) → Option (List UInt8)) : ∀ (t : List EP) (q i : Nat) (out : List (List UInt8)), m.Rels.drop i = t → t.length < q → out.length + t.length ≤ 100 →
    scope_tree_print_L0 n (tr m plug) l self k q out i = k (out ++ (t.filter fun x => decide (x.Label = l)).map (epF m plug F))
  | [], q + 1, i, out, h, _, _ => by
    rw [scope_tree_print_L0, tr_m, if_neg (drop_nil' h)]
    simp
  | x :: t, q + 1, i, out, h, hq, ho => by
    obtain ⟨h1, h2, h3⟩ := drop_cons h
    simp only [List.length_cons] at hq ho
    have hx := List.mem_of_getElem? h2
    have hna := g.na x hx
    have hpr := g.prd x hx
    have ih := fun out' ho' => print_L0_eq n hn m g plug F B hB l self hs k t q (i + 1) out' h3 (by omega) ho'
    rw [scope_tree_print_L0, tr_m, if_pos h1, h2, bind_some', List.filter_cons]
    by_cases hl : x.Label = l
    · rw [if_neg (by simp [hl]), if_pos (by simp [hl])]
      simp only [jn_def]
      rw [print_L1_eq n m g plug F B (by omega) self x hx (hs x hx hl) _ x.Args n 0 [] rfl (by omega) (by simp; omega), List.nil_append]
      have h5 := join_le (x.Args.map (argF m plug F)) [44, 32]
      have h6 := args_len (F := F) (B := B) g x.Args (g.rol x hx) (fun a ha h0 => (hs x hx hl a ha h0).2)
      have h7 : ((x.Args.map (argF m plug F)).map fun y => y.length + ([44, 32] : List UInt8).length).sum = ((x.Args.map (argF m plug F)).map fun y => y.length + 2).sum := rfl
      have h8 : ((x.Args.map fun a => atv m plug a.Var).filter fun l => decide (0 ≤ l)).length ≤ 10 := by
        have := List.length_filter_le (fun l => decide ((0 : Int) ≤ l)) (x.Args.map fun a => atv m plug a.Var)
        rw [List.length_map] at this
        omega
      have h9 : B * ((x.Args.map fun a => atv m plug a.Var).filter fun l => decide (0 ≤ l)).length ≤ B * 10 := Nat.mul_le_mul_left B h8
      rw [h7] at h5
      have hJ : (Lib.join (x.Args.map (argF m plug F)) [44, 32]).length ≤ 10000000000000 := by omega
      have hjo : strings_Join n (x.Args.map (argF m plug F)) [44, 32] = some (Lib.join (x.Args.map (argF m plug F)) [44, 32]) := by
        unfold strings_Join
        rw [chk_true ⟨by simp; omega, by omega⟩]
      rw [chk_true (by simp; omega), hjo, bind_some', chk_true (by simp; omega), chk_true (by simp; omega), chk_true (by simp; omega), ih _ (by simp; omega)]
      simp [epF]
    · rw [if_pos hl, if_neg (by simp [hl]), ih _ (by omega)]
theorem print_eq (m : MRS) (g : Good m) (plug : List Int) (hp : ∀ l ∈ plug, isLab m l) (hF : FormP m plug) (rank : Int → Nat) (hr1 : ∀ l ∈ labs m, rank l < (labs m).length) (hr2 : ∀ l ∈ labs m, ∀ c ∈ chil m plug l, rank l < rank c) : ∀ (d n : Nat) (l : Int), l ∈ labs m → (labs m).length ≤ rank l + d → 2000 + d ≤ n → d ≤ 8 → scope_tree_print (n + 1) (tr m plug) l = some (frm m plug d l) ∧ (frm m plug d l).length ≤ bnd d
  | 0, n, l, hl, hd, _, _ => by have := hr1 l hl; omega
  | d + 1, n, l, hl, hd, hn, hd8 => by
    obtain ⟨n, rfl⟩ : ∃ n', n = n' + 1 := ⟨n - 1, by omega⟩
    have hnr := g.nr
    have hb : bnd d ≤ 100000000000 := by
      rcases d with _ | _ | _ | _ | _ | _ | _ | _ | d
      all_goals first | omega | decide
    have hkid : ∀ c ∈ chil m plug l, scope_tree_print (n + 1) (tr m plug) c = some (frm m plug d c) ∧ (frm m plug d c).length ≤ bnd d := fun c hc => by
      have h1 := hr2 l hl c hc
      exact print_eq m g plug hp hF rank hr1 hr2 d n c (chil_lab g hp hc) (by omega) (by omega) (by omega)
    have hs : ∀ x ∈ m.Rels, x.Label = l → ∀ a ∈ x.Args, 0 ≤ atv m plug a.Var → scope_tree_print (n + 1) (tr m plug) (atv m plug a.Var) = some (frm m plug d (atv m plug a.Var)) ∧ (frm m plug d (atv m plug a.Var)).length ≤ bnd d := fun x hx hl' a ha h0 => hkid _ (mem_chil.2 ⟨x, hx, hl', a, ha, rfl, h0⟩)
    have hlen := labF_len (F := frm m plug d) (B := bnd d) g (fun c hc => (hkid c hc).2)
    have hfew := chil_few g hp hF hl
    have hmul : bnd d * (chil m plug l).length ≤ bnd d * 8 := Nat.mul_le_mul_left _ hfew
    have hle : (labF m plug (frm m plug d) l).length ≤ bnd (d + 1) := by simp only [bnd]; omega
    refine ⟨?_, hle⟩
    rw [scope_tree_print]
    simp only [jn_def]
    rw [print_L0_eq (n + 1) (by omega) m g plug (frm m plug d) (bnd d) hb l (scope_tree_print (n + 1)) hs _ m.Rels (n + 1) 0 [] rfl (by omega) (by simp; omega), List.nil_append]
    have hcnt := List.length_filter_le (fun x => decide (x.Label = l)) m.Rels
    have hbd : bnd (d + 1) ≤ 1000000000000 := bnd_le _ (by omega)
    have hJ : (Lib.join ((m.Rels.filter fun x => decide (x.Label = l)).map (epF m plug (frm m plug d))) [32, 38, 32]).length ≤ bnd (d + 1) := hle
    have hjo : strings_Join (n + 1) ((m.Rels.filter fun x => decide (x.Label = l)).map (epF m plug (frm m plug d))) [32, 38, 32] = some (labF m plug (frm m plug d) l) := by
      unfold strings_Join
      rw [chk_true ⟨by rw [List.length_map]; omega, by omega⟩]
      rfl
    rw [hjo]
    rfl
theorem dec_all (q : Nat) : ((List.range 256).all fun v => decide (r01_Decimal (q + 5) ((v : Nat) : Int) = some (dec10 20 v))) = true := by kernel_rfl
theorem r01_Decimal_eq (n : Nat) (hn : 1000 ≤ n) (v : Int) (hv : 0 ≤ v ∧ v < 256) : r01_Decimal n v = some (dec10 20 v.toNat) := by
  obtain ⟨q, rfl⟩ : ∃ q, n = q + 5 := ⟨n - 5, by omega⟩
  have h := List.all_eq_true.1 (dec_all q) v.toNat (List.mem_range.2 (by omega))
  have h2 := of_decide_eq_true h
  rw [show ((v.toNat : Nat) : Int) = v by omega] at h2
  exact h2
theorem form_L1t_eq (n : Nat) (hn : 1000 ≤ n) (m : MRS) (g : Good m) (plug : List Int) (hpl : plug.length = (hols m).length) (F : Int → List UInt8) (B : Nat) (hB : B ≤ 1000000000000) (self : MRS → List Int → Int → Option (List UInt8)) (x : EP) (hx : x ∈ m.Rels) (hs : ∀ a ∈ x.Args, 0 ≤ atv m plug a.Var → self m plug (atv m plug a.Var) = some (F (atv m plug a.Var)) ∧ (F (atv m plug a.Var)).length ≤ B) (k : List UInt8 → Option (List UInt8)) : ∀ (t : List Arg) (q i : Nat) (s : List UInt8), x.Args.drop i = t → t.length < q → s.length + 2000000000000 * t.length ≤ 100000000000000 →
    r41_form_L1 n m plug self x k q s i = k (s ++ if i = 0 then Lib.join (t.map (argF m plug F)) [44, 32] else Lib.joinTail [44, 32] (t.map (argF m plug F)))
  | [], q + 1, i, s, h, _, _ => by
    rw [r41_form_L1, if_neg (drop_nil' h)]
    split <;> simp [Lib.join_nil, Lib.joinTail]
  | a :: t, q + 1, i, s, h, hq, ho => by
    obtain ⟨h1, h2, h3⟩ := drop_cons h
    simp only [List.length_cons] at hq ho
    have ha := List.mem_of_getElem? h2
    have hr := g.arg x hx a ha
    have hro := g.rol x hx a ha
    have hv := g.nv
    obtain ⟨z, hz1, hz2⟩ : ∃ s, ix m.Vars a.Var = some s ∧ s.length ≤ 1 := by
      unfold ix
      rw [if_pos hr.1, List.getElem?_eq_getElem (by omega)]
      exact ⟨_, rfl, g.srt _ (List.getElem_mem _)⟩
    have hd := dec10_len 20 a.Var.toNat
    have ih := fun s' ho' => form_L1t_eq n hn m g plug hpl F B hB self x hx hs k t q (i + 1) s' h3 (by omega) ho'
    -- behind the separator
    have step : ∀ s' : List UInt8, s'.length ≤ s.length + 2 → ((some a).bind fun x32 => chk (s'.length + x32.Role.length ≤ 9223372036854775807) (chk ((s' ++ x32.Role).length + ([32] : List UInt8).length ≤ 9223372036854775807) ((r41_at n m plug x32.Var).bind fun r40 => if (0 : Int) ≤ r40 then (self m plug r40).bind fun r48 => chk (((s' ++ x32.Role) ++ [32]).length + r48.length ≤ 9223372036854775807) (r41_form_L1 n m plug self x k q (((s' ++ x32.Role) ++ [32]) ++ r48) (i + 1)) else (ix m.Vars x32.Var).bind fun x57 => chk (((s' ++ x32.Role) ++ [32]).length + x57.length ≤ 9223372036854775807) ((r01_Decimal n x32.Var).bind fun r62 => chk ((((s' ++ x32.Role) ++ [32]) ++ x57).length + r62.length ≤ 9223372036854775807) (r41_form_L1 n m plug self x k q ((((s' ++ x32.Role) ++ [32]) ++ x57) ++ r62) (i + 1)))))) = k (s' ++ (argF m plug F a ++ Lib.joinTail [44, 32] (t.map (argF m plug F)))) := by
      intro s' hs'
      rw [bind_some', chk_true (by omega), chk_true (by simp; omega), r41_at_eq n m g hn plug hpl, bind_some']
      by_cases h0 : 0 ≤ atv m plug a.Var
      · obtain ⟨e1, e2⟩ := hs a ha h0
        rw [if_pos h0, e1, bind_some', chk_true (by simp; omega), ih _ (by simp; omega), if_neg (by omega)]
        simp [argF, h0]
      · rw [if_neg h0, hz1, bind_some', chk_true (by simp; omega), r01_Decimal_eq n hn a.Var (by omega), bind_some', chk_true (by simp; omega), ih _ (by simp; omega), if_neg (by omega)]
        simp [argF, h0, hz1]
    rw [r41_form_L1, if_pos h1]
    simp only [jn_def, h2]
    by_cases hi : 0 < i
    · rw [if_pos hi, chk_true (by simp; omega)]
      refine (step (s ++ [44, 32]) (by simp)).trans ?_
      rw [if_neg (by omega)]
      simp [Lib.joinTail]
    · rw [if_neg hi]
      refine (step s (by omega)).trans ?_
      rw [if_pos (by omega), List.map_cons, Lib.join_cons]
theorem epF_ne (m : MRS) (plug : List Int) (F : Int → List UInt8) (x : EP) : epF m plug F x ≠ [] := by
  unfold epF
  simp
theorem form_L0t_eq (n : Nat) (hn : 1000 ≤ n) (m : MRS) (g : Good m) (plug : List Int) (hpl : plug.length = (hols m).length) (F : Int → List UInt8) (B : Nat) (hB : B ≤ 100000000000) (l : Int) (self : MRS → List Int → Int → Option (List UInt8)) (hs : ∀ x ∈ m.Rels, x.Label = l → ∀ a ∈ x.Args, 0 ≤ atv m plug a.Var → self m plug (atv m plug a.Var) = some (F (atv m plug a.Var)) ∧ (F (atv m plug a.Var)).length ≤ B) : ∀ (t : List EP) (q i : Nat) (D : List (List UInt8)), m.Rels.drop i = t → t.length < q → (∀ e ∈ D, e ≠ []) → (Lib.join D [32, 38, 32]).length + 3000000000000 * t.length ≤ 50000000000000 →
    r41_form_L0 n m plug l self q (Lib.join D [32, 38, 32]) i = some (Lib.join (D ++ (t.filter fun x => decide (x.Label = l)).map (epF m plug F)) [32, 38, 32])
  | [], q + 1, i, D, h, _, _, _ => by
    rw [r41_form_L0, if_neg (drop_nil' h)]
    simp
  | x :: t, q + 1, i, D, h, hq, hD, ho => by
    obtain ⟨h1, h2, h3⟩ := drop_cons h
    simp only [List.length_cons] at hq ho
    have hx := List.mem_of_getElem? h2
    have hna := g.na x hx
    have hpr := g.prd x hx
    rw [r41_form_L0, if_pos h1, h2, bind_some', List.filter_cons]
    by_cases hl : x.Label = l
    · rw [if_neg (by simp [hl]), if_pos (by simp [hl])]
      simp only [jn_def]
      have h10 := epF_len (F := F) (B := B) g hx (fun a ha h0 => (hs x hx hl a ha h0).2)
      have h8 : (kidsOf m plug x).length ≤ 10 := by
        unfold kidsOf
        have := List.length_filter_le (fun l => decide ((0 : Int) ≤ l)) (x.Args.map fun a => atv m plug a.Var)
        rw [List.length_map] at this
        omega
      have h9 : B * (kidsOf m plug x).length ≤ B * 10 := Nat.mul_le_mul_left B h8
      have hlen : (epF m plug F x).length ≤ 2000000000000 := by omega
      have hel : (epF m plug F x).length = x.Pred.length + 1 + (Lib.join (x.Args.map (argF m plug F)) [44, 32]).length + 1 := by
        unfold epF
        simp only [List.length_append, List.length_cons, List.length_nil]
      have step : ∀ s' : List UInt8, s'.length ≤ (Lib.join D [32, 38, 32]).length + 3 → Lib.join (D ++ [epF m plug F x]) [32, 38, 32] = s' ++ epF m plug F x → (chk (s'.length + x.Pred.length ≤ 9223372036854775807) (chk ((s' ++ x.Pred).length + ([40] : List UInt8).length ≤ 9223372036854775807) (r41_form_L1 n m plug self x (fun t_22 => chk (t_22.length + ([41] : List UInt8).length ≤ 9223372036854775807) (r41_form_L0 n m plug l self q (t_22 ++ [41]) (i + 1))) n ((s' ++ x.Pred) ++ [40]) 0))) = some (Lib.join (D ++ ([epF m plug F x] ++ (t.filter fun x => decide (x.Label = l)).map (epF m plug F))) [32, 38, 32]) := by
        intro s' hs' hj
        rw [chk_true (by omega), chk_true (by simp; omega), form_L1t_eq n hn m g plug hpl F B (by omega) self x hx (hs x hx hl) _ x.Args n 0 _ rfl (by omega) (by simp; omega), if_pos rfl, chk_true (by simp only [List.length_append, List.length_cons, List.length_nil]; omega)]
        have e1 : (s' ++ x.Pred ++ [40] ++ Lib.join (x.Args.map (argF m plug F)) [44, 32]) ++ [41] = Lib.join (D ++ [epF m plug F x]) [32, 38, 32] := by
          rw [hj]
          unfold epF
          simp [List.append_assoc]
        rw [e1, form_L0t_eq n hn m g plug hpl F B hB l self hs t q (i + 1) (D ++ [epF m plug F x]) h3 (by omega) (fun e he => by
          rcases List.mem_append.1 he with h | h
          · exact hD e h
          · rw [List.mem_singleton.1 h]; exact epF_ne m plug F x) (by rw [hj, List.length_append]; omega), List.append_assoc]
      have hsn := join_snoc D (epF m plug F x) [32, 38, 32]
      rw [List.map_cons]
      by_cases hDn : D = []
      · rw [if_pos hDn] at hsn
        have e0 : Lib.join D [32, 38, 32] = [] := by rw [hDn, Lib.join_nil]
        rw [if_neg (by simp [e0])]
        exact step _ (by omega) (by rw [hsn, e0, List.nil_append])
      · rw [if_neg hDn] at hsn
        rw [if_pos (join_ne _ hDn hD), chk_true (by simp; omega)]
        exact step _ (by simp) hsn
    · rw [if_pos hl, if_neg (by simp [hl]), form_L0t_eq n hn m g plug hpl F B hB l self hs t q (i + 1) D h3 (by omega) hD (by omega)]
theorem form_eqr (m : MRS) (g : Good m) (plug : List Int) (hp : ∀ l ∈ plug, isLab m l) (hpl : plug.length = (hols m).length) (hF : FormP m plug) (rank : Int → Nat) (hr1 : ∀ l ∈ labs m, rank l < (labs m).length) (hr2 : ∀ l ∈ labs m, ∀ c ∈ chil m plug l, rank l < rank c) : ∀ (d n : Nat) (l : Int), l ∈ labs m → (labs m).length ≤ rank l + d → 2000 + d ≤ n → d ≤ 8 → r41_form (n + 1) m plug l = some (frm m plug d l) ∧ (frm m plug d l).length ≤ bnd d
  | 0, n, l, hl, hd, _, _ => by have := hr1 l hl; omega
  | d + 1, n, l, hl, hd, hn, hd8 => by
    obtain ⟨n, rfl⟩ : ∃ n', n = n' + 1 := ⟨n - 1, by omega⟩
    have hnr := g.nr
    have hb : bnd d ≤ 100000000000 := by
      rcases d with _ | _ | _ | _ | _ | _ | _ | _ | d
      all_goals first | omega | decide
    have hkid : ∀ c ∈ chil m plug l, r41_form (n + 1) m plug c = some (frm m plug d c) ∧ (frm m plug d c).length ≤ bnd d := fun c hc => by
      have h1 := hr2 l hl c hc
      exact form_eqr m g plug hp hpl hF rank hr1 hr2 d n c (chil_lab g hp hc) (by omega) (by omega) (by omega)
    have hs : ∀ x ∈ m.Rels, x.Label = l → ∀ a ∈ x.Args, 0 ≤ atv m plug a.Var → r41_form (n + 1) m plug (atv m plug a.Var) = some (frm m plug d (atv m plug a.Var)) ∧ (frm m plug d (atv m plug a.Var)).length ≤ bnd d := fun x hx hl' a ha h0 => hkid _ (mem_chil.2 ⟨x, hx, hl', a, ha, rfl, h0⟩)
    have hlen := labF_len (F := frm m plug d) (B := bnd d) g (fun c hc => (hkid c hc).2)
    have hfew := chil_few g hp hF hl
    have hmul : bnd d * (chil m plug l).length ≤ bnd d * 8 := Nat.mul_le_mul_left _ hfew
    refine ⟨?_, by show (labF m plug (frm m plug d) l).length ≤ _; simp only [bnd]; omega⟩
    rw [r41_form]
    have h0 := form_L0t_eq (n + 1) (by omega) m g plug hpl (frm m plug d) (bnd d) hb l (r41_form (n + 1)) hs m.Rels (n + 1) 0 [] rfl (by omega) (by simp) (by rw [Lib.join_nil]; simp; omega)
    rw [Lib.join_nil, List.nil_append] at h0
    rw [h0]
    rfl
theorem law41_ScopePrints_true (m : MRS) (plug : List Int) : law41_ScopePrints 100000 m plug = some true := by
  have key : ∀ n : Nat, 90000 ≤ n → Good m → ∃ r, scope_Print (n + 1) m plug = some r ∧ r41_Print (n + 1) m plug = some r := by
    intro n hn g
    obtain ⟨e, e1, e2⟩ := scope_Valid_eq (n + 1) m g (by omega) plug
    obtain ⟨f, f1, f2⟩ := r41_Valid_eq (n + 1) m g (by omega) plug
    obtain rfl := e2.unique f2
    unfold scope_Print r41_Print
    rw [e1, bind_some', f1, bind_some']
    by_cases he : e = 0
    · subst he
      obtain ⟨hA, hF⟩ : ArgP m plug ∧ FormP m plug := by
        rcases e2 with ⟨_, h⟩ | ⟨_, _, h⟩ | ⟨_, _, _, h⟩ | ⟨a, b, c, _⟩
        · cases h
        · cases h
        · cases h
        · exact ⟨a, b⟩
      have hp : ∀ l ∈ plug, isLab m l := fun l hl => (mem_labs g).1 (hA.lab l hl)
      obtain ⟨rank, hr1, hr2⟩ := hF.rank g hp
      have hll := labs_len g; have hnr := g.nr
      have hrl : atv m plug m.Top ∈ labs m := (mem_labs g).2 (atv_lab hp hF.root)
      obtain ⟨p1, _⟩ := print_eq m g plug hp hF rank hr1 hr2 8 n (atv m plug m.Top) hrl (by omega) (by omega) (by omega)
      obtain ⟨q1, _⟩ := form_eqr m g plug hp hA.len hF rank hr1 hr2 8 n (atv m plug m.Top) hrl (by omega) (by omega) (by omega)
      refine ⟨(frm m plug 8 (atv m plug m.Top), 0), ?_, ?_⟩
      · rw [if_neg (by simp), scope_plugged_eq (n + 1) m g (by omega) plug hA.len, bind_some', tr_at m plug g.top, bind_some', p1]
        rfl
      · rw [if_neg (by simp), r41_at_eq (n + 1) m g (by omega) plug hA.len, bind_some', q1]
        rfl
    · exact ⟨([], e), by rw [if_pos he], by rw [if_pos he]⟩
  unfold law41_ScopePrints
  obtain ⟨b, h1, h2⟩ := valid41 m
  simp only [jn_def]
  rw [h1, bind_some', ex41]
  by_cases hb : b = true
  · obtain ⟨g, _⟩ := h2 hb
    rw [if_neg (by simp [hb])]
    by_cases hp : 20 < plug.length
    · rw [if_pos (by simp [hp])]
      rfl
    · obtain ⟨r, r1, r2⟩ := key 99999 (by decide) g
      rw [if_neg (by simp [hp]), r1, bind_some', r2, bind_some', if_pos rfl, if_pos rfl]
      rfl
  · rw [if_pos (by simp [hb])]
    rfl
end Go.Proofs.YtegboboemepifaaGreatDoor

