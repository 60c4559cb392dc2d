import Derived.Test.YtcbjobfklcefpaaGreatGwit
set_option linter.unusedVariables false
/-! Short words for the steps of a walk: what the kernel can see is not said. -/
namespace Gw
open Go Go.RowKit
abbrev T : Bool := true
abbrev F : Bool := false
theorem oi {α : Type} {a b : α} (h : some a = some b) : a = b := Option.some.inj h
theorem lS (n : Nat) : n < n + 1 := Nat.lt_succ_self n
/-- an operation of a region -/
def oA (ops : Array Oper) (k : Nat) : Oper := match ops[k]? with
  | some o => o
  | none => default
section
variable {n : Nat} {G : Nat → Value} {l : List (Nat × Value)} {ds : List Deferred} {P : Program} {w w' w0 : World} {r : Option Nat} {Q : Exit → Act → World → Prop} {ops : Array Oper} {k : Nat} {o : Oper} {C : World → Prop} {L : Act → Prop}
variable {M : Nat → Prop} {Rs Rs' : List Res} {a : Act} {K : Act → World → Prop} {id : Nat} {next : Act → World → Prop} {x y : Code} {ops' : Array Oper} {Q' : Exit → Act → World → Prop}
theorem sl (h : St M w0 w Rs) (is : List Nat) (hn : is.Nodup := by decide) (hs : is.map (fun i => Rs[i]?) = Rs'.map some := by exact rfl) : St M w0 w Rs' := h.sel is hn hs
/-- a state, and what is still to be told -/
@[reducible] def Y (n : Nat) (l : List (Nat × Value)) (ds : List Deferred) (M : Nat → Prop) (w0 : World) (Rs : List Res) (h : Prop) : Act → World → Prop := fun a w => ∃ G : Nat → Value, a = S n G l ds ∧ St M w0 w Rs ∧ h
theorem yy {l' : List (Nat × Value)} {h : Prop} (H : St M w0 w Rs) (is : List Nat) (hh : h) (hl : l'.map (fun p => lk l p.1 (G p.1)) = l'.map (fun p => p.2) := by kernel_rfl) (hn : is.Nodup := by decide) (hs : is.map (fun i => Rs[i]?) = Rs'.map some := by exact rfl) :
    Y n l' ds M w0 Rs' h (S n G l ds) w := ⟨_, S.sub hl, H.sel is hn hs, hh⟩
theorem zs (h : WP r P x (Exit.then (WP r P y Q) Q) a w) : WP r P (.seq x y) Q a w := WP.seq h
theorem zg (h : WPI r P ops Q 0 a w) : WP r P (.region id ops false) Q a w := WP.region h
theorem zsg (h : WPI r P ops (Exit.then (WP r P y Q) Q) 0 a w) : WP r P (.seq (.region id ops false) y) Q a w := WP.seq (WP.region h)
theorem zd (h : Q .normal a w) (hk : ops.size = k := by exact rfl) : WPI r P ops Q k a w := WPI.done hk h
theorem zdn (h : next a w) (hk : ops.size = k := by exact rfl) : WPI r P ops (Exit.then next Q) k a w := WPI.done hk (then_n h)
theorem zF {c : Operand} (h : WP r P y Q a w) (hc : a.eval c = .bool false := by kernel_rfl) : WP r P (.cond c x y) Q a w := WP.condF hc h
theorem zT {c : Operand} (h : WP r P x Q a w) (hc : a.eval c = .bool true := by kernel_rfl) : WP r P (.cond c x y) Q a w := WP.condT hc h
theorem zFn {c : Operand} (h : next a w) (hc : a.eval c = .bool false := by kernel_rfl) : WP r P (.cond c x .skip) (Exit.then next Q) a w := WP.condF hc (WP.skip h)
theorem zTn {c : Operand} (h : next a w) (hc : a.eval c = .bool true := by kernel_rfl) : WP r P (.cond c .skip y) (Exit.then next Q) a w := WP.condT hc (WP.skip h)
theorem zr (m k' : Nat) (nl : List (Nat × Value)) (h : WPI r P ops Q k' (S n G (nl ++ l) ds) w) (hm : k + m = k' := by exact rfl) (hk : ∀ K : List (Nat × Value) → Prop, PX P ops n G K m k l = K (nl ++ l) := by intro K; kernel_rfl) : WPI r P ops Q k (S n G l ds) w := WPI.runS m k' nl hm hk h
theorem zrd (m k' : Nat) (nl : List (Nat × Value)) (h : next (S n G (nl ++ l) ds) w) (hm : k + m = k' := by exact rfl) (hk : ∀ K : List (Nat × Value) → Prop, PX P ops n G K m k l = K (nl ++ l) := by intro K; kernel_rfl) (hz : ops.size = k' := by exact rfl) : WPI r P ops (Exit.then next Q) k (S n G l ds) w := WPI.runS m k' nl hm hk (WPI.done hz (then_n h))
theorem qr (m k' : Nat) (nl : List (Nat × Value)) (h : WQ P ops C L k' (S n G (nl ++ l) ds)) (hm : k + m = k' := by exact rfl) (hk : ∀ K : List (Nat × Value) → Prop, PX P ops n G K m k l = K (nl ++ l) := by intro K; kernel_rfl) : WQ P ops C L k (S n G l ds) := WQ.runS m k' nl hm hk h
theorem ze (m k' : Nat) (nl : List (Nat × Value)) (h : WPI r P ops Q k' (S n G (nl ++ l) ds) w) (hm : k + m = k' := by exact rfl) (hk : ∀ K : List (Nat × Value) → Prop, PX P ops n G K m k l = K (nl ++ l) := by intro K; subst e; kernel_rfl) : WPI r P ops Q k (S n G l ds) w := WPI.runS m k' nl hm hk h
theorem zed (m k' : Nat) (nl : List (Nat × Value)) (h : next (S n G (nl ++ l) ds) w) (hm : k + m = k' := by exact rfl) (hk : ∀ K : List (Nat × Value) → Prop, PX P ops n G K m k l = K (nl ++ l) := by intro K; subst e; kernel_rfl) (hz : ops.size = k' := by exact rfl) : WPI r P ops (Exit.then next Q) k (S n G l ds) w := WPI.runS m k' nl hm hk (WPI.done hz (then_n h))
theorem qe (m k' : Nat) (nl : List (Nat × Value)) (h : WQ P ops C L k' (S n G (nl ++ l) ds)) (hm : k + m = k' := by exact rfl) (hk : ∀ K : List (Nat × Value) → Prop, PX P ops n G K m k l = K (nl ++ l) := by intro K; subst e; kernel_rfl) : WQ P ops C L k (S n G l ds) := WQ.runS m k' nl hm hk h
theorem qd (h : L a) (hk : ops.size = k := by exact rfl) : WQ P ops C L k a := WQ.done hk h
theorem zv (v : Value) (hr : (execOp (S n G l ds).eval (oA ops k)).run P w = .ok (.value v) w') {d : Nat} (h : WPI r P ops Q (k + 1) (S n G ((d, v) :: l) ds) w')
    (ho : ops[k]? = some (oA ops k) := by exact rfl) (hd : (oA ops k).dst = some d := by exact rfl) (hw : Region.wanted (oA ops k) (yS ops n G l) = true := by kernel_rfl) : WPI r P ops Q k (S n G l ds) w := WPI.valueS v d ho hd hw hr h
theorem qv (v : Value) (hr : ∀ w, C w → (execOp (S n G l ds).eval (oA ops k)).run P w = .ok (.value v) w) {d : Nat} (h : WQ P ops C L (k + 1) (S n G ((d, v) :: l) ds))
    (ho : ops[k]? = some (oA ops k) := by exact rfl) (hd : (oA ops k).dst = some d := by exact rfl) (hw : Region.wanted (oA ops k) (yS ops n G l) = true := by kernel_rfl) : WQ P ops C L k (S n G l ds) := WQ.valueS v d ho hd hw hr h
theorem qc (v : Value) {f : FuncId} {args : Array Value} (hc : ∀ w, C w → Ret P f args w fun u w' => u = v ∧ C w') {d : Nat} (h : WQ P ops C L (k + 1) (S n G ((d, v) :: l) ds))
    (ho : ops[k]? = some (oA ops k) := by exact rfl) (hd : (oA ops k).dst = some d := by exact rfl) (hw : Region.wanted (oA ops k) (yS ops n G l) = true := by kernel_rfl)
    (hr : ∀ w, (execOp (S n G l ds).eval (oA ops k)).run P w = .ok (.enter f args) w := by intro w; kernel_rfl) : WQ P ops C L k (S n G l ds) := WQ.callS v d ho hd hw hr hc h
theorem zo (h : Op1 P ops (oA ops k) (WPI r P ops Q (k + 1)) a w) (ho : ops[k]? = some (oA ops k) := by exact rfl) : WPI r P ops Q k a w := WPI.op ho h
theorem zn {d : Nat} {d' : Option Tmp} {v : Value} (h : WPI r P ops Q k (S n G ((d, v) :: l) ds) w) (hd : d' = some d := by exact rfl) : WPI r P ops Q k ((S n G l ds).put d' v) w := WPI.nS d hd h
theorem z0 {d' : Option Tmp} {v : Value} (h : WPI r P ops Q k (S n G l ds) w) (hd : d' = none := by exact rfl) : WPI r P ops Q k ((S n G l ds).put d' v) w := WPI.nS0 hd h
theorem lld {h : Hp} {ad : Addr} {cs : List Value} {v : Value} (off : Nat) (hc : CellsAt h ad cs) (hle : h.le w) {T : TypeId} {x : Operand} (ho : o.op = .load T x := by exact rfl) (hx : a.eval x = .pointer (some (ad.add off)) := by kernel_rfl) (hv : ldl P T cs off = some v := by kernel_rfl) :
    (execOp a.eval o).run P w = .ok (.value v) w := ev_load T x off v hc hle ho hx hv
theorem llb {b : Nat} {cs : Array Value} {E : TypeId} {v : Value} (H : St M w0 w Rs) (i off : Nat) {T : TypeId} {x : Operand} (ho : o.op = .load T x := by exact rfl) (hi : Rs[i]? = some (Box b cs E) := by exact rfl) (hx : a.eval x = .pointer (some ((⟨b, 0, none⟩ : Addr).add off)) := by kernel_rfl) (hv : ldl P T cs.toList off = some v := by kernel_rfl) :
    (execOp a.eval o).run P w = .ok (.value v) w := ev_loadBox H i hi T x off v ho hx hv
theorem lle {α : Type} (F : Flat α) {h : Hp} {s v : Value} {l : List α} {i : Nat} {x : α} (hr : Rd F h s l) (hle : h.le w) (hx : l[i]? = some x) (off : Nat) {T : TypeId} {y : Operand} (ho : o.op = .load T y := by exact rfl) (hy : a.eval y = .pointer (some ((slAt s F.sz i).add off)) := by kernel_rfl) (hv : ldl P T (F.enc x) off = some v := by kernel_rfl) :
    (execOp a.eval o).run P w = .ok (.value v) w := ev_loadEl hr hle hx T y off v ho hy hv
theorem lln {v : Value} {m : Nat} (hv : IsSl v m) (E : TypeId) (sz by' : Nat) {T : TypeId} {x : Operand} (ho : o.op = .call ⟨.builtin .len, #[x], #[T]⟩ := by exact rfl) (hT : sE P T = some (E, sz, by', true) := by kernel_rfl) (hx : a.eval x = v := by kernel_rfl) :
    (execOp a.eval o).run P w = .ok (.value (vi m)) w := ev_len hv T x E sz by' ho hT hx
theorem lli {v : Value} {m : Nat} (hv : IsSl v m) (E : TypeId) (sz by' : Nat) (kk : IntKind) (i : Int) (hi : 0 ≤ i ∧ i < m) {T : TypeId} {x y : Operand} (ho : o.op = .indexAddr T x y := by exact rfl) (hT : sE P T = some (E, sz, by', true) := by kernel_rfl) (hx : a.eval x = v := by kernel_rfl) (hy : a.eval y = .int kk i := by kernel_rfl) :
    (execOp a.eval o).run P w = .ok (.value (va (slAt v sz i.toNat))) w := ev_index hv T x y E sz by' kk i ho hT hx hy hi
theorem lla (ad : Addr) (m : Nat) (E : TypeId) (sz : Nat) (kk : IntKind) (i : Int) (hi : 0 ≤ i ∧ i < m) {T : TypeId} {x y : Operand} (ho : o.op = .indexAddr T x y := by exact rfl) (hT : ainfo P T = some (m, E, sz) := by kernel_rfl) (hx : a.eval x = va ad := by kernel_rfl) (hy : a.eval y = .int kk i := by kernel_rfl) :
    (execOp a.eval o).run P w = .ok (.value (va (ad.add (i.toNat * sz)))) w := ev_indexArr T x y m E sz kk i ho hT hx hy hi
theorem obx (H : St M w0 w Rs) (cs : Array Value) (E : TypeId) {x : Operand} (n : ∀ b w', St M w0 w' (Box b cs E :: Rs) → K (a.put o.dst (vp b 0)) w') (hw : Region.wanted o (yielded ops a.tmps) = true := by kernel_rfl) (ho : o.op = .box E x := by exact rfl) (hx : (a.eval x).cells = cs := by kernel_rfl) : Op1 P ops o K a w := Op1.box H cs hw E x ho hx n
theorem oal (H : St M w0 w Rs) (cs : Array Value) (E : TypeId) (n : ∀ b w', St M w0 w' (Box b cs E :: Rs) → K (a.put o.dst (vp b 0)) w') (hw : Region.wanted o (yielded ops a.tmps) = true := by kernel_rfl) (ho : o.op = .alloc E := by exact rfl) (hz : zcells P E = some cs := by kernel_rfl) : Op1 P ops o K a w := Op1.alloc H cs hw E ho hz n
theorem oca {f : FuncId} {args : Array Value} {R : Value → World → Prop} (hc : Ret P f args w R) (n : ∀ v w', R v w' → K (a.put o.dst v) w') (hw : Region.wanted o (yielded ops a.tmps) = true := by kernel_rfl) (hr : (execOp a.eval o).run P w = .ok (.enter f args) w := by kernel_rfl) : Op1 P ops o K a w := Op1.call hw hr hc n
theorem osb {b : Nat} {cs : Array Value} {E : TypeId} (H : St M w0 w Rs) (i off : Nat) (v : Value) (cs' : Array Value) (ag : Bool) (h1 : ∀ u ∈ v.cells.toList, u.oneCell' = true) {T : TypeId} {x y : Operand}
    (n : ∀ w', St M w0 w' (Box b cs' E :: Rs.eraseIdx i) → K (a.put o.dst undef) w') (hw : Region.wanted o (yielded ops a.tmps) = true := by kernel_rfl) (ho : o.op = .store T x y := by exact rfl) (hi : Rs[i]? = some (Box b cs E) := by exact rfl)
    (hx : a.eval x = va ((⟨b, 0, none⟩ : Addr).add off) := by kernel_rfl) (hy : a.eval y = v := by kernel_rfl) (ht : tsz P T = some (ag, v.cells.size) := by kernel_rfl) (hfit : Nat.ble (off + v.cells.size) cs.size = true := by kernel_rfl)
    (hcs : (stl cs.toList off v.cells.toList).toArray = cs' := by kernel_rfl) : Op1 P ops o K a w := Op1.storeBox H i hi hw T x y off v cs' ag ho hx hy ht hfit hcs h1 n
theorem oow {α : Type} {F : Flat α} {E : TypeId} {s : Value} {l : List α} (H : St M w0 w Rs) (i j : Nat) (v : α) (ag : Bool) (hj : j < l.length) {T : TypeId} {x y : Operand}
    (n : ∀ w', St M w0 w' (Own F E s (l.set j v) :: Rs.eraseIdx i) → K (a.put o.dst undef) w') (hi : Rs[i]? = some (Own F E s l) := by exact rfl) (hw : Region.wanted o (yielded ops a.tmps) = true := by kernel_rfl) (ho : o.op = .store T x y := by exact rfl) (hx : a.eval x = va (slAt s F.sz j) := by kernel_rfl)
    (hy : a.eval y = F.val v := by kernel_rfl) (ht : tsz P T = some (ag, F.sz) := by kernel_rfl) : Op1 P ops o K a w := Op1.storeOwn H i hi hw T x y j v ag ho hx hy ht hj n
end
section
variable {α β γ : Type}
theorem ls {a : α} {f : α → Option β} {r : β} (h : lt a f = some r) : ∃ x, x = a ∧ f x = some r := ⟨a, rfl, h⟩
theorem bs {a : Option α} {f : α → Option β} {r : β} (h : bd a f = some r) : ∃ x, a = some x ∧ f x = some r := bd_some h
theorem gs {c : Prop} [Decidable c] {b : Option β} {r : β} (h : gd c b = some r) : c ∧ b = some r := gd_some h
theorem js {k : γ} {f : γ → Option β} {r : β} (h : jn k f = some r) : ∃ x, x = k ∧ f x = some r := ⟨k, rfl, h⟩
theorem bt {x y : Option β} {r : β} (h : br true x y = some r) : x = some r := h
theorem bf {x y : Option β} {r : β} (h : br false x y = some r) : y = some r := h
end
end Gw
