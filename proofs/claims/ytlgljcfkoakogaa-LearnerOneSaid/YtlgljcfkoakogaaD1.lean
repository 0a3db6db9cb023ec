import Derived.Orders
import Derived.OrdersHeld
import Derived.Below
namespace Go.Proofs.Ytlgljcfkoakogaa
set_option linter.unusedSimpArgs false
set_option linter.unusedVariables false

section
variable {P : Program} {ops : Array Oper}
/-- Operation o, in whatever frame like this one, yields v and comes to a world of R. -/
def Gives (P : Program) (o : Oper) (a : Act) (W : World) (v : Value) (R : World → Prop) : Prop :=
  (∃ W', (execOp a.eval o).run P W = .ok (.value v) W' ∧ R W') ∨ (∃ f args, (execOp a.eval o).run P W = .ok (.enter f args) W ∧ Calls P f args W fun e W' => e = .returned v ∧ R W')
theorem Gives.wp {o : Oper} {a : Act} {W : World} {v : Value} {R : World → Prop} {K : Act → World → Prop} {Q : Exit → Act → World → Prop} (h : Gives P o a W v R)
    (hK : ∀ W', R W' → K (a.put o.dst v) W') : o.wp P a W K Q := by
  unfold Oper.wp
  rcases h with ⟨W', e, hR⟩ | ⟨f, args, e, hc⟩
  · rw [e]; exact hK _ hR
  · rw [e]
    exact hc.mono fun e w'' ⟨h1, h2⟩ => by subst h1; exact hK _ h2
theorem Gives.put {o : Oper} {a : Act} {W : World} {v : Value} {R : World → Prop} (h : Gives P o a W v R) (hs : ∀ cs b, o.op ≠ .select cs b) {t : Tmp} (ht : t ∉ o.looksAt ops) (u : Value) :
    Gives P o (a.put (some t) u) W v R := by
  unfold Gives
  rw [execOp_put (ops := ops) o hs a (some t) u (fun d hd => by injection hd with hd; subst hd; exact ht)]
  exact h
theorem Gives.mono {o : Oper} {a : Act} {W : World} {v : Value} {R R' : World → Prop} (h : Gives P o a W v R) (hR : ∀ W', R W' → R' W') : Gives P o a W v R' := by
  rcases h with ⟨W', e, h1⟩ | ⟨f, args, e, hc⟩
  · exact .inl ⟨W', e, hR _ h1⟩
  · exact .inr ⟨f, args, e, hc.mono fun e w'' ⟨h1, h2⟩ => ⟨h1, hR _ h2⟩⟩

/-- The region's shape: a chain of forced operations, and one (number j, slot t) that may come up at any time among them. -/
def lateB (ops : Array Oper) (j : Nat) (t : Tmp) : List Nat → Array Bool → Bool
  | [], listed => Region.ready .any ops listed == [j]
  | k :: ks, listed => (Region.ready .any ops listed).all (fun i => i == k || i == j) && (Region.ready .any ops listed).contains k && (Region.ready .any ops (listed.setIfInBounds j true) == [k]) && k != j &&
      (match ops[k]? with
       | some o => !(o.looksAt ops).contains t && o.dst != some t
       | none => false) && lateB ops j t ks (listed.setIfInBounds k true)
def listedEnd (ks : List Nat) (listed : Array Bool) : Array Bool := ks.foldl (fun l k => l.setIfInBounds k true) listed
theorem listedEnd_set {j : Nat} : ∀ (ks : List Nat) (listed : Array Bool), (∀ k ∈ ks, k ≠ j) → listedEnd ks (listed.setIfInBounds j true) = (listedEnd ks listed).setIfInBounds j true
  | [], _, _ => rfl
  | k :: ks, listed, h => by
    show listedEnd ks ((listed.setIfInBounds j true).setIfInBounds k true) = (listedEnd ks (listed.setIfInBounds k true)).setIfInBounds j true
    rw [Array.setIfInBounds_comm _ _ (Ne.symm (h k (by simp))), listedEnd_set ks _ (fun x hx => h x (by simp [hx]))]

/-- What a new block g had is kept: those from B on that were there are as they were. -/
def KeepsNew (B : Nat) (W W' : World) : Prop := W.heap.size ≤ W'.heap.size ∧ ∀ b, B ≤ b → b < W.heap.size → W'.heap[b]? = W.heap[b]?

/-- The chain's walk, in the order of the text; I: what is known of the world (it must bear an alloc). Shut. -/
def lateWalk (P : Program) (ops : Array Oper) (B : Nat) (Q : Act → (World → Prop) → Prop) : List Nat → Act → (World → Prop) → Prop
  | [], a, I => Q a I
  | k :: ks, a, I => ∃ o v I', ops[k]? = some o ∧ Region.wanted o (yielded ops a.tmps) = true ∧ (∀ W o, I' W → I' (W.alloc o)) ∧
      (∀ W, I W → Gives P o a W v (fun W' => I' W' ∧ KeepsNew B W W')) ∧ lateWalk P ops B Q ks (a.put o.dst v) I'
structure LW (P : Program) (ops : Array Oper) (B : Nat) (Q : Act → (World → Prop) → Prop) (ks : List Nat) (a : Act) (I : World → Prop) : Prop where
  out : lateWalk P ops B Q ks a I
/-- The walk through all orders, shut. -/
structure AW (P : Program) (ops : Array Oper) (Q : Exit → Act → World → Prop) (fuel : Nat) (listed : Array Bool) (a : Act) (w : World) : Prop where
  out : wpAny P .any ops Q fuel listed a w

theorem late_done {j : Nat} {t : Tmp} {Q : Act → (World → Prop) → Prop} {Q' : Exit → Act → World → Prop} {B m : Nat} {g : Nat} {obj : Obj} (hns : Region.noSelect ops = true) (hg : B ≤ g) :
    ∀ (ks : List Nat) (listed : Array Bool) (a : Act) (I : World → Prop) (W : World), lateB ops j t ks listed = true → lateWalk P ops B Q ks a I →
    (∀ a I, Q a I → ∀ W, I W → W.heap[g]? = some obj → AW P ops Q' m (listedEnd ks (listed.setIfInBounds j true)) (a.put (some t) (.pointer (some ⟨g, 0, none⟩))) W) →
    I W → W.heap[g]? = some obj → AW P ops Q' (m + ks.length) (listed.setIfInBounds j true) (a.put (some t) (.pointer (some ⟨g, 0, none⟩))) W
  | [], listed, a, I, W, _, hw, hend, hI, hgo => hend a I (show Q a I from hw) W hI hgo
  | k :: ks, listed, a, I, W, hB, hw, hend, hI, hgo => by
    simp only [lateB, Bool.and_eq_true, beq_iff_eq, bne_iff_ne, ne_eq] at hB
    obtain ⟨⟨⟨⟨⟨hall, hcont⟩, hr⟩, hkj⟩, hap⟩, hB'⟩ := hB
    obtain ⟨o, v, I', ho, hwant, hcl, hgives, hrest⟩ := hw
    rw [ho] at hap
    simp only [Bool.and_eq_true, Bool.not_eq_true', bne_iff_ne, ne_eq] at hap
    have ht : t ∉ o.looksAt ops := by have := hap.1; simpa using this
    refine ⟨wpAny_all (rs := [k]) hr (by simp) fun i hi => ?_⟩
    obtain rfl : i = k := by simpa using hi
    unfold wpOp
    rw [ho]
    have hwant' : Region.wanted o (yielded ops (a.put (some t) (.pointer (some ⟨g, 0, none⟩))).tmps) = true := by
      rw [wanted_put o a (some t) _ (fun d hd => by injection hd with hd; subst hd; exact ht)]; exact hwant
    simp only [hwant', if_true]
    refine .inl (((hgives W hI).put (ops := ops) (fun cs b => Region.noSelect_spec hns i o cs b ho) ht _).wp fun W' hW' => ?_)
    have hlt : g < W.heap.size := (Array.getElem?_eq_some_iff.1 hgo).1
    rw [Act.put_comm a _ v (fun d hd => by injection hd with hd; subst hd; exact fun e => hap.2 e), Array.setIfInBounds_comm _ _ (Ne.symm hkj)]
    exact (late_done hns hg ks (listed.setIfInBounds i true) (a.put o.dst v) I' W' hB' hrest (fun a I hQ W hI hgo => by
      have := hend a I hQ W hI hgo
      rw [show listedEnd (i :: ks) (listed.setIfInBounds j true) = listedEnd ks ((listed.setIfInBounds j true).setIfInBounds i true) from rfl, Array.setIfInBounds_comm _ _ (Ne.symm hkj)] at this
      exact this) hW'.1 ((hW'.2.2 g hg hlt).trans hgo)).out

theorem late_all {j : Nat} {t : Tmp} {oj : Oper} {Q : Act → (World → Prop) → Prop} {Q' : Exit → Act → World → Prop} {B m : Nat} {obj : Obj} (hns : Region.noSelect ops = true)
    (hj : ops[j]? = some oj) (hjd : oj.dst = some t) (hjg : oj.guard = none) (hja : ∀ (a : Act) W, (execOp a.eval oj).run P W = .ok (.value (.pointer (some ⟨W.heap.size, 0, none⟩))) (W.alloc obj)) :
    ∀ (ks : List Nat) (listed : Array Bool) (a : Act) (I : World → Prop) (W : World), (∀ W o, I W → I (W.alloc o)) → lateB ops j t ks listed = true → lateWalk P ops B Q ks a I →
    (∀ a I, Q a I → ∀ g, B ≤ g → ∀ W, I W → W.heap[g]? = some obj → AW P ops Q' m (listedEnd ks (listed.setIfInBounds j true)) (a.put (some t) (.pointer (some ⟨g, 0, none⟩))) W) →
    I W → B ≤ W.heap.size → AW P ops Q' (m + ks.length + 1) listed a W := by
  have hwant : ∀ y, Region.wanted oj y = true := fun y => by unfold Region.wanted; rw [hjg]
  have hnew : ∀ (W : World), (W.alloc obj).heap[W.heap.size]? = some obj := fun W => by
    show (W.heap.push _)[W.heap.size]? = _
    simp
  intro ks
  induction ks with
  | nil =>
    intro listed a I W hcl hB hw hend hI hBs
    simp only [lateB, beq_iff_eq] at hB
    refine ⟨wpAny_all (rs := [j]) hB (by simp) fun i hi => ?_⟩
    obtain rfl : i = j := by simpa using hi
    unfold wpOp
    rw [hj]
    simp only [hwant, if_true]
    refine .inl ?_
    unfold Oper.wp
    rw [hja, Oper.upon_value, hjd]
    exact (hend a I hw _ hBs _ (hcl W _ hI) (hnew W)).out
  | cons k ks ih =>
    intro listed a I W hcl hB hw hend hI hBs
    have hB0 := hB
    have hw0 := hw
    simp only [lateB, Bool.and_eq_true, beq_iff_eq, bne_iff_ne, ne_eq] at hB
    obtain ⟨⟨⟨⟨⟨hall, hcont⟩, hr⟩, hkj⟩, hap⟩, hB'⟩ := hB
    obtain ⟨o, v, I', ho, hwant', hcl', hgives, hrest⟩ := hw
    refine ⟨wpAny_all (rs := Region.ready .any ops listed) rfl (fun h0 => by rw [h0] at hcont; simp at hcont) fun i hi => ?_⟩
    have hi2 : i = k ∨ i = j := by
      have := List.all_eq_true.1 hall i hi
      simpa using this
    rcases hi2 with rfl | rfl
    · unfold wpOp
      rw [ho]
      simp only [hwant', if_true]
      refine .inl ((hgives W hI).wp fun W' hW' => ?_)
      exact (ih (listed.setIfInBounds i true) (a.put o.dst v) I' W' hcl' hB' hrest (fun a I hQ g hg W hI hgo => by
        have := hend a I hQ g hg W hI hgo
        rw [show listedEnd (i :: ks) (listed.setIfInBounds j true) = listedEnd ks ((listed.setIfInBounds j true).setIfInBounds i true) from rfl, Array.setIfInBounds_comm _ _ (Ne.symm hkj)] at this
        exact this) hW'.1 (Nat.le_trans hBs hW'.2.1)).out
    · unfold wpOp
      rw [hj]
      simp only [hwant, if_true]
      refine .inl ?_
      unfold Oper.wp
      rw [hja, Oper.upon_value, hjd]
      exact (late_done hns hBs (k :: ks) listed a I _ hB0 hw0 (fun a I hQ W hI hgo => hend a I hQ _ hBs W hI hgo) (hcl W _ hI) (hnew W)).out
/-- A region that draws its order: a chain, a free alloc, a tail. -/
theorem wp_late {id : Nat} (j : Nat) (t : Tmp) (ks : List Nat) (m : Nat) {oj : Oper} {Q : Act → (World → Prop) → Prop} {Q' : Exit → Act → World → Prop} {obj : Obj} {a : Act} {w : World} (I : World → Prop)
    (hm : P.follows .mixedOrders = true) (hns : Region.noSelect ops = true) (hj : ops[j]? = some oj) (hjd : oj.dst = some t) (hjg : oj.guard = none)
    (hja : ∀ (a : Act) W, (execOp a.eval oj).run P W = .ok (.value (.pointer (some ⟨W.heap.size, 0, none⟩))) (W.alloc obj)) (hcl : ∀ W o, I W → I (W.alloc o)) (hI : I w.drew)
    (hsz : m + ks.length + 1 = ops.size) (hB : lateB ops j t ks (Array.replicate ops.size false) = true)
    (hend : ∀ a I, Q a I → ∀ g, w.heap.size ≤ g → ∀ W, I W → W.heap[g]? = some obj → AW P ops Q' m (listedEnd ks ((Array.replicate ops.size false).setIfInBounds j true)) (a.put (some t) (.pointer (some ⟨g, 0, none⟩))) W)
    (h : LW P ops w.heap.size Q ks a I) : (Code.region id ops true).wp P Q' a w := by
  refine wp_region_any hm ?_
  have := (late_all hns hj hjd hjg hja ks (Array.replicate ops.size false) a I w.drew hcl hB h.out hend hI (Nat.le_refl _)).out
  rw [hsz] at this
  exact this
end

end Go.Proofs.Ytlgljcfkoakogaa
