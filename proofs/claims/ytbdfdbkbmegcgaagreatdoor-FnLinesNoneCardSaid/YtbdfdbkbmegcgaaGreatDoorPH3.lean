/- What is proved here: parts of the walk of the law and of its plain side; no condition but those that each theorem states. -/
import Derived.Test.YtbdfdbkbmegcgaaGreatDoorPH2
import Derived.Test.YtbdfdbkbmegcgaaGreatDoorProg
import Derived.Conc.LoneCalls
import Derived.Lib.ConvBytes
set_option linter.all false
set_option maxRecDepth 100000
set_option maxHeartbeats 16000000
namespace Go.Hw
mutual
inductive Plan where
 | done
 | tak (i:Nat) (r:Plan)
 | all (b:Br)
inductive Br where
 | nil
 | cons (i:Nat) (p:Plan) (b:Br)
end
def Br.idx:Br→List Nat
 | .nil=>[]
 | .cons i _ b=>i ::b.idx
mutual
def okP (ops:Array Oper):Nat→Array Bool→Plan→Bool
 | _,l,.done=>(Region.ready .any ops l).isEmpty
 | f+1,l,.tak i r=>(match ops[i]? with
   | some o=>quietK o.op
   | none=>false) && Region.free .any ops l i && (Region.ready .any ops l).contains i && okP ops f (l.setIfInBounds i true) r
 | f+1,l,.all b=>!(Region.ready .any ops l).isEmpty && decide (Region.ready .any ops l=b.idx) && okB ops f l b
 | 0,_,_=>false
def okB (ops:Array Oper):Nat→Array Bool→Br→Bool
 | _,_,.nil=>true
 | f,l,.cons i p b=>okP ops f (l.setIfInBounds i true) p && okB ops f l b
end
def clrL (d:Nat):List (Nat × AV)→List (Nat × AV)
 | []=>[]
 | (j,v) ::r=>bif Nat.beq j d then clrL d r else (j,v) ::clrL d r
def clr (d:Option Nat) (t:List (Nat × AV)):List (Nat × AV):=match d with
 | some d=>clrL d t
 | none=>t
theorem look_clrL {k d:Nat} {v:AV}:∀ {l:List (Nat × AV)},look k (clrL d l)=some v→k ≠ d∧look k l=some v
 | [],h=>by simp [clrL,look] at h
 | (j, u) ::r,h=>by
   cases e:Nat.beq j d with
   | true =>
     simp only [clrL,e,cond_true] at h
     obtain ⟨h1,h2⟩:=look_clrL h
     have e:=Nat.eq_of_beq_eq_true e
     refine ⟨h1,?_⟩
     have:Nat.beq j k=false:=by
       cases e2:Nat.beq j k with
       | false=>rfl
       | true=>exact absurd (Nat.eq_of_beq_eq_true e2).symm (by omega)
     simp only [look,this,cond_false];exact h2
   | false =>
     simp only [clrL,e,cond_false,look] at h ⊢
     cases e2:Nat.beq j k with
     | true =>
       rw [e2] at h
       have:=Nat.eq_of_beq_eq_true e2
       subst this
       refine ⟨?_,h⟩
       intro e3;subst e3;simp at e
     | false=>rw [e2] at h;exact look_clrL h
def keepL (t:List (Nat × AV)):List Nat→List (Nat × AV)
 | []=>[]
 | k ::r=>match look k t with
   | some v=>(k,v) ::keepL t r
   | none=>keepL t r
def memN (k:Nat):List Nat→Bool
 | []=>false
 | j ::r=>bif Nat.beq j k then true else memN k r
def pickH (ro:List Nat):Heap→Heap
 | []=>[]
 | (k,o) ::r=>bif memN k ro then (k,o) ::pickH ro r else pickH ro r
def dropH (ro:List Nat):Heap→Heap
 | []=>[]
 | (k,o) ::r=>bif memN k ro then dropH ro r else (k,o) ::dropH ro r
def putL (d:Option Nat) (v:AV) (t:List (Nat × AV)):List (Nat × AV):=match d with
 | some d=>(d,v) ::t
 | none=>t
mutual
def runP (P:Program) (ti:Nat→Option TI) (ops:List Oper) (hr:Heap) (n0:Nat):Plan→List (Nat × AV)→St→(St→Prop)→Prop
 | .done,_,s,K=>K s
 | .tak i r,to,s,K=>takI P ti ops hr n0 r to s K ops[i]?
 | .all b,to,s,K=>runB P ti ops hr n0 b to s K
termination_by p=>(SizeOf.sizeOf p,0)
def takI (P:Program) (ti:Nat→Option TI) (ops:List Oper) (hr:Heap) (n0:Nat) (r:Plan) (to:List (Nat × AV)) (s:St) (K:St→Prop):Option Oper→Prop
 | some o=>takG P ti ops hr n0 o r to s K (wantA ops s o.guard)
 | none=>False
termination_by (SizeOf.sizeOf r,4)
def takG (P:Program) (ti:Nat→Option TI) (ops:List Oper) (hr:Heap) (n0:Nat) (o:Oper) (r:Plan) (to:List (Nat × AV)) (s:St) (K:St→Prop):Option (Bool × Bool)→Prop
 | some (b,want)=>if b=want then takO P ti ops hr n0 o r to s K (aop ti ⟨to,hr,n0⟩ o.op) else runP P ti ops hr n0 r (clr o.dst to) (s.put o.dst (.tup [])) K
 | none=>False
termination_by (SizeOf.sizeOf r,3)
def takO (P:Program) (ti:Nat→Option TI) (ops:List Oper) (hr:Heap) (n0:Nat) (o:Oper) (r:Plan) (to:List (Nat × AV)) (s:St) (K:St→Prop):Option (Prop × AV × Heap × Nat)→Prop
 | some (p,v,_,_)=>p∧runP P ti ops hr n0 r (putL o.dst v to) (s.put o.dst v) K
 | none=>takW P ti ops hr n0 o r to s K (loadK o.op) (aop ti s o.op)
termination_by (SizeOf.sizeOf r,2)
def takW (P:Program) (ti:Nat→Option TI) (ops:List Oper) (hr:Heap) (n0:Nat) (o:Oper) (r:Plan) (to:List (Nat × AV)) (s:St) (K:St→Prop):Bool→Option (Prop × AV × Heap × Nat)→Prop
 | false,some (p,v,_,_)=>p∧cvOk (isCv o.op) v∧runP P ti ops hr n0 r (clr o.dst to) (s.put o.dst v) K
 | _,_=>False
termination_by (SizeOf.sizeOf r,1)
def runB (P:Program) (ti:Nat→Option TI) (ops:List Oper) (hr:Heap) (n0:Nat):Br→List (Nat × AV)→St→(St→Prop)→Prop
 | .nil,_,_,_=>True
 | .cons i p b,to,s,K=>effI P ti ops hr n0 p to s K ops[i]?∧runB P ti ops hr n0 b to s K
termination_by b=>(SizeOf.sizeOf b,0)
def effI (P:Program) (ti:Nat→Option TI) (ops:List Oper) (hr:Heap) (n0:Nat) (r:Plan) (to:List (Nat × AV)) (s:St) (K:St→Prop):Option Oper→Prop
 | some o=>effG P ti ops hr n0 o r to s K (wantA ops s o.guard)
 | none=>False
termination_by (SizeOf.sizeOf r,3)
def effG (P:Program) (ti:Nat→Option TI) (ops:List Oper) (hr:Heap) (n0:Nat) (o:Oper) (r:Plan) (to:List (Nat × AV)) (s:St) (K:St→Prop):Option (Bool × Bool)→Prop
 | some (b,want)=>if b=want then effS P ti ops hr n0 o.dst r (clr o.dst to) s K (evR (callA ti s o.op) (aop ti s o.op)) else runP P ti ops hr n0 r (clr o.dst to) (s.put o.dst (.tup [])) K
 | none=>False
termination_by (SizeOf.sizeOf r,2)
def effS (P:Program) (ti:Nat→Option TI) (ops:List Oper) (hr:Heap) (n0:Nat) (dst:Option Nat) (r:Plan) (to:List (Nat × AV)) (s:St) (K:St→Prop):EvR→Prop
 | .val p v h nx=>p∧runP P ti ops hr n0 r to ({ s with h:=h,nx:=nx }.put dst v) K
 | .call f args=>ACall P f args s fun v h nx=>runP P ti ops hr n0 r to ({ s with h:=h,nx:=nx }.put dst v) K
 | .bad=>False
termination_by (SizeOf.sizeOf r,1)
end
section
variable {P:Program} {ti:Nat→Option TI} {ops:List Oper} {hr:Heap} {n0:Nat} {o:Oper} {r:Plan} {b:Br} {to:List (Nat × AV)} {s:St} {K:St→Prop} {dst:Option Nat} {i:Nat}
@[go_sem] theorem runP_done:runP P ti ops hr n0 .done to s K=K s:=by rw [runP]
@[go_sem] theorem runP_tak:runP P ti ops hr n0 (.tak i r) to s K=takI P ti ops hr n0 r to s K ops[i]?:=by rw [runP]
@[go_sem] theorem runP_all:runP P ti ops hr n0 (.all b) to s K=runB P ti ops hr n0 b to s K:=by rw [runP]
@[go_sem] theorem takI_some:takI P ti ops hr n0 r to s K (some o)=takG P ti ops hr n0 o r to s K (wantA ops s o.guard):=by rw [takI]
@[go_sem] theorem takG_tt:takG P ti ops hr n0 o r to s K (some (true,true))=takO P ti ops hr n0 o r to s K (aop ti ⟨to,hr,n0⟩ o.op):=by rw [takG];rfl
@[go_sem] theorem takG_ff:takG P ti ops hr n0 o r to s K (some (false,false))=takO P ti ops hr n0 o r to s K (aop ti ⟨to,hr,n0⟩ o.op):=by rw [takG];rfl
@[go_sem] theorem takG_tf:takG P ti ops hr n0 o r to s K (some (true,false))=runP P ti ops hr n0 r (clr o.dst to) (s.put o.dst (.tup [])) K:=by rw [takG];rfl
@[go_sem] theorem takG_ft:takG P ti ops hr n0 o r to s K (some (false,true))=runP P ti ops hr n0 r (clr o.dst to) (s.put o.dst (.tup [])) K:=by rw [takG];rfl
theorem takG_split {b want:Bool} (h1:b=want→takO P ti ops hr n0 o r to s K (aop ti ⟨to,hr,n0⟩ o.op)) (h2:b = !want→runP P ti ops hr n0 r (clr o.dst to) (s.put o.dst (.tup [])) K):takG P ti ops hr n0 o r to s K (some (b,want)):=by
 rw [takG]
 split
 · exact h1 ‹_›
 · rename_i h;exact h2 (by cases b<;>cases want<;>simp_all)
@[go_sem] theorem takO_some {p:Prop} {v:AV} {h:Heap} {nx:Nat}:takO P ti ops hr n0 o r to s K (some (p,v,h,nx))=(p∧runP P ti ops hr n0 r (putL o.dst v to) (s.put o.dst v) K):=by rw [takO]
@[go_sem] theorem takO_none:takO P ti ops hr n0 o r to s K none=takW P ti ops hr n0 o r to s K (loadK o.op) (aop ti s o.op):=by rw [takO]
@[go_sem] theorem takW_some {p:Prop} {v:AV} {h:Heap} {nx:Nat}:takW P ti ops hr n0 o r to s K false (some (p,v,h,nx))=(p∧cvOk (isCv o.op) v∧runP P ti ops hr n0 r (clr o.dst to) (s.put o.dst v) K):=by rw [takW]
@[go_sem] theorem runB_nil:runB P ti ops hr n0 .nil to s K=True:=by rw [runB]
@[go_sem] theorem runB_cons:runB P ti ops hr n0 (.cons i r b) to s K=(effI P ti ops hr n0 r to s K ops[i]?∧runB P ti ops hr n0 b to s K):=by rw [runB]
@[go_sem] theorem effI_some:effI P ti ops hr n0 r to s K (some o)=effG P ti ops hr n0 o r to s K (wantA ops s o.guard):=by rw [effI]
@[go_sem] theorem effG_tt:effG P ti ops hr n0 o r to s K (some (true,true))=effS P ti ops hr n0 o.dst r (clr o.dst to) s K (evR (callA ti s o.op) (aop ti s o.op)):=by rw [effG];rfl
@[go_sem] theorem effG_ff:effG P ti ops hr n0 o r to s K (some (false,false))=effS P ti ops hr n0 o.dst r (clr o.dst to) s K (evR (callA ti s o.op) (aop ti s o.op)):=by rw [effG];rfl
@[go_sem] theorem effG_tf:effG P ti ops hr n0 o r to s K (some (true,false))=runP P ti ops hr n0 r (clr o.dst to) (s.put o.dst (.tup [])) K:=by rw [effG];rfl
@[go_sem] theorem effG_ft:effG P ti ops hr n0 o r to s K (some (false,true))=runP P ti ops hr n0 r (clr o.dst to) (s.put o.dst (.tup [])) K:=by rw [effG];rfl
theorem effG_split {b want:Bool} (h1:b=want→effS P ti ops hr n0 o.dst r (clr o.dst to) s K (evR (callA ti s o.op) (aop ti s o.op))) (h2:b = !want→runP P ti ops hr n0 r (clr o.dst to) (s.put o.dst (.tup [])) K):effG P ti ops hr n0 o r to s K (some (b,want)):=by
 rw [effG]
 split
 · exact h1 ‹_›
 · rename_i h;exact h2 (by cases b<;>cases want<;>simp_all)
@[go_sem] theorem effS_val {p:Prop} {v:AV} {h:Heap} {nx:Nat}:effS P ti ops hr n0 dst r to s K (.val p v h nx)=(p∧runP P ti ops hr n0 r to ({ s with h:=h,nx:=nx }.put dst v) K):=by rw [effS]
theorem effS_call {f:FuncId} {args:List A1} (h:ACall P f args s fun v h nx=>runP P ti ops hr n0 r to ({ s with h:=h,nx:=nx }.put dst v) K):effS P ti ops hr n0 dst r to s K (.call f args):=by rw [effS];exact h
end
section
variable {α:Type} {P:Program} {ti:Nat→Option TI} {ops:List Oper} {hr:Heap} {n0:Nat} {r:Plan} {to:List (Nat × AV)} {rest:List Oper} {s:St} {K:St→Prop} {dst:Option Nat} {f:FuncId} {args args':List A1} {H:Heap} {p:α→Prop} {H':α→Heap} {res:α→AV} {k':Nat}
theorem effS_at (σ:List Nat) (hc:CallX P f args' H σ.length p res H' k') (ha:args=args'.map (A1.ren (rnF σ s.nx)))
   (hσ:allP (fun x=>x < s.nx) σ) (hH:hsub s.nx s.h (hren (rnF σ s.nx) H))
   (hK:∀ x,p x→runP P ti ops hr n0 r to ({ s with h:=hren (rnF σ s.nx) (H' x)++minus s.h (hren (rnF σ s.nx) H),nx:=s.nx+(k' - σ.length) }.put dst ((res x).ren (rnF σ s.nx))) K):effS P ti ops hr n0 dst r to s K (.call f args) :=
 effS_call (ACall.at σ hc ha hσ hH hK)
theorem effS_view (σ:List Nat) (hc:CallX P f args' H σ.length p res H' k')
   (ha:All2 (a1le s.h (fun h=>True∧∃ o,look h s.h=some o∧look h (minus s.h (hren (rnF σ s.nx) H))=some o) [] s.nx) args (args'.map (A1.ren (rnF σ s.nx))))
   (hσ:allP (fun x=>x < s.nx) σ) (hH:hsub s.nx s.h (hren (rnF σ s.nx) H)) (hf:∀ x,p x→((res x).ren (rnF σ s.nx)).flat∧hflat (hren (rnF σ s.nx) (H' x)))
   (hK:∀ x,p x→runP P ti ops hr n0 r to ({ s with h:=hren (rnF σ s.nx) (H' x)++minus s.h (hren (rnF σ s.nx) H),nx:=s.nx+(k' - σ.length) }.put dst ((res x).ren (rnF σ s.nx))) K):effS P ti ops hr n0 dst r to s K (.call f args) :=
 effS_call (ACall.view σ hc ha hσ hH hf hK)
end
section
variable {P:Program} {ti:Nat→Option TI} {ops:List Oper} {hr:Heap} {n0:Nat} {r:Plan} {to:List (Nat × AV)} {rest:List Oper} {s:St} {K:St→Prop} {dst:Option Nat} {f:FuncId} {args args':List A1} {H:Heap} {H':Heap} {res:AV} {k':Nat}
theorem runS_c (σ:List Nat) (hc:Call P f args' H σ.length res H' k') (ha:args=args'.map (A1.ren (rnF σ s.nx)))
   (hσ:allP (fun x=>x < s.nx) σ) (hH:hsub s.nx s.h (hren (rnF σ s.nx) H))
   (hK:runR P ti ops rest ({ s with h:=hren (rnF σ s.nx) H'++minus s.h (hren (rnF σ s.nx) H),nx:=s.nx+(k' - σ.length) }.put dst (res.ren (rnF σ s.nx))) K):runS P ti ops dst rest s K (.call f args) :=
 runS_at σ hc ha hσ hH fun _ _=>hK
theorem runS_v (σ:List Nat) (hc:Call P f args' H σ.length res H' k')
   (ha:All2 (a1le s.h (fun h=>True∧∃ o,look h s.h=some o∧look h (minus s.h (hren (rnF σ s.nx) H))=some o) [] s.nx) args (args'.map (A1.ren (rnF σ s.nx))))
   (hσ:allP (fun x=>x < s.nx) σ) (hH:hsub s.nx s.h (hren (rnF σ s.nx) H)) (hf:(res.ren (rnF σ s.nx)).flat∧hflat (hren (rnF σ s.nx) H'))
   (hK:runR P ti ops rest ({ s with h:=hren (rnF σ s.nx) H'++minus s.h (hren (rnF σ s.nx) H),nx:=s.nx+(k' - σ.length) }.put dst (res.ren (rnF σ s.nx))) K):runS P ti ops dst rest s K (.call f args) :=
 runS_view σ hc ha hσ hH (fun _ _=>hf) fun _ _=>hK
theorem effS_c (σ:List Nat) (hc:Call P f args' H σ.length res H' k') (ha:args=args'.map (A1.ren (rnF σ s.nx)))
   (hσ:allP (fun x=>x < s.nx) σ) (hH:hsub s.nx s.h (hren (rnF σ s.nx) H))
   (hK:runP P ti ops hr n0 r to ({ s with h:=hren (rnF σ s.nx) H'++minus s.h (hren (rnF σ s.nx) H),nx:=s.nx+(k' - σ.length) }.put dst (res.ren (rnF σ s.nx))) K):effS P ti ops hr n0 dst r to s K (.call f args) :=
 effS_at σ hc ha hσ hH fun _ _=>hK
theorem effS_v (σ:List Nat) (hc:Call P f args' H σ.length res H' k')
   (ha:All2 (a1le s.h (fun h=>True∧∃ o,look h s.h=some o∧look h (minus s.h (hren (rnF σ s.nx) H))=some o) [] s.nx) args (args'.map (A1.ren (rnF σ s.nx))))
   (hσ:allP (fun x=>x < s.nx) σ) (hH:hsub s.nx s.h (hren (rnF σ s.nx) H)) (hf:(res.ren (rnF σ s.nx)).flat∧hflat (hren (rnF σ s.nx) H'))
   (hK:runP P ti ops hr n0 r to ({ s with h:=hren (rnF σ s.nx) H'++minus s.h (hren (rnF σ s.nx) H),nx:=s.nx+(k' - σ.length) }.put dst (res.ren (rnF σ s.nx))) K):effS P ti ops hr n0 dst r to s K (.call f args) :=
 effS_view σ hc ha hσ hH (fun _ _=>hf) fun _ _=>hK
end
def DInv (c:Ctx) (to:List (Nat × AV)) (s:St) (a:Act) (w:World):Prop :=
 ∃ A ρ,Rep c s a w A ρ∧(∀ b,c.A0 b→A b)∧∀ k v,look k to=some v→v.At c.w0 c.A0 c.ρ0 (a.tmps.getD k undef)
structure DOk (c:Ctx) (hr:Heap):Prop where
 heap:HeapAt c.w0 c.A0 c.ρ0 hr
 imm:∀ b,c.A0 b→b < c.w0.heap.size∧¬ c.F b
 ro:∀ b,blkOf c.ρ0 hr b→¬ c.F b
 new:∀ h,c.k0≤h→c.ρ0 h=none
def SD (c:Ctx) (w:World):Prop:=∀ b,b < c.w0.heap.size→¬ c.F b→w.heap[b]? = c.w0.heap[b]?
section
variable {P:Program} {ti:Nat→Option TI} {c:Ctx} {hr:Heap}
theorem rho_le {s:St} {a:Act} {w:World} {A:Nat→Prop} {ρ:Rho} (hd:DOk c hr) (h:Rep c s a w A ρ):∀ k b,c.ρ0 k=some b→ρ k=some b:=by
 intro k b hk
 by_cases hlt:k < c.k0
 · rw [h.old k hlt];exact hk
 · rw [hd.new k (by omega)] at hk;cases hk
theorem old_at {s:St} {a:Act} {w:World} {A:Nat→Prop} {ρ:Rho} (hd:DOk c hr) (h:Rep c s a w A ρ) (hA:∀ b,c.A0 b→A b) {v:AV} {y:Value} (hv:v.At c.w0 c.A0 c.ρ0 y):v.At w A ρ y :=
 hv.mono hA (fun b hb=>h.frame b (hd.imm b hb).1 (hd.imm b hb).2) (rho_le hd h)
theorem Rep.union {s:St} {a:Act} {w:World} {A:Nat→Prop} {ρ:Rho} (hd:DOk c hr) (h:Rep c s a w A ρ):Rep c s a w (fun b=>A b ∨ c.A0 b) ρ:=by
 have hA:∀ b,A b→A b ∨ c.A0 b:=fun b hb=>.inl hb
 refine { heap:=⟨fun x hx hxr=>?_,h.heap.inj⟩,tmps:=fun k v hk=>(h.tmps k v hk).mono hA (fun _ _=>rfl) (fun _ _ h=>h),nt:=h.nt,defers:=h.defers.mono hA (fun _ _=>rfl),os:=h.os,tape:=h.tape,output:=h.output,size:=h.size,frame:=h.frame,own:=h.own,imm:=?_,old:=h.old,new:=h.new,k0:=h.k0 }
 · obtain ⟨b,m,h1,h2,h3,h4⟩:=h.heap.objs x hx hxr
   refine ⟨b,m,h1,h2.mono hA (fun _ _=>rfl) (fun _ _ h=>h) rfl,?_,h4⟩
   rintro (hb|hb)
   · exact h3 hb
   · rcases h.own x hx hxr b m h1 with h5|h5
     · exact (hd.imm b hb).2 h5
     · have:=(hd.imm b hb).1;omega
 · rintro b (hb|hb)
   · exact h.imm b hb
   · exact ⟨Nat.lt_of_lt_of_le (hd.imm b hb).1 h.size,.inl hb⟩
theorem rep_old {to:List (Nat × AV)} {s:St} {a:Act} {w:World} {A:Nat→Prop} {ρ:Rho} (hd:DOk c hr) (h:Rep c s a w A ρ) (hto:∀ k v,look k to=some v→v.At c.w0 c.A0 c.ρ0 (a.tmps.getD k undef)) :
   Rep { c with F:=fun _=>True,dm:=none } ⟨to,hr,c.k0⟩ { a with defers:=[] } c.w0 c.A0 c.ρ0 :=
 { heap:=hd.heap,tmps:=hto,nt:=h.nt,defers:=Marks.nil,os:=rfl,tape:=rfl,output:=rfl,size:=Nat.le_refl _,frame:=fun _ _ _=>rfl,own:=fun _ _ _ _ _ _=>.inl trivial,imm:=fun b hb=>⟨(hd.imm b hb).1,.inl hb⟩,old:=fun _ _=>rfl,new:=hd.new,k0:=Nat.le_refl _ }
theorem keep_put {to:List (Nat × AV)} {a:Act} {d:Option Nat} {v:AV} {y:Value} (hto:∀ k v,look k to=some v→v.At c.w0 c.A0 c.ρ0 (a.tmps.getD k undef)) (hd:∀ k,d=some k→k < a.tmps.size) (hv:v.At c.w0 c.A0 c.ρ0 y) :
   ∀ k u,look k (putL d v to)=some u→u.At c.w0 c.A0 c.ρ0 ((a.put d y).tmps.getD k undef):=by
 intro k u hk
 cases d with
 | none=>exact hto k u hk
 | some d =>
   simp only [putL,look,cond_eq_ite] at hk
   simp only [Act.put]
   split at hk
   · rename_i e
     have e:d=k:=by simpa using e
     subst e;injection hk with hk;subst hk
     rw [getD_set_self (hd d rfl)];exact hv
   · rename_i e
     rw [getD_set_ne (by intro e';subst e';simp at e)]
     exact hto k u hk
theorem keep_clr {to:List (Nat × AV)} {a:Act} {d:Option Nat} {y:Value} (hto:∀ k v,look k to=some v→v.At c.w0 c.A0 c.ρ0 (a.tmps.getD k undef)) :
   ∀ k u,look k (clr d to)=some u→u.At c.w0 c.A0 c.ρ0 ((a.put d y).tmps.getD k undef):=by
 intro k u hk
 cases d with
 | none=>exact hto k u hk
 | some d =>
   obtain ⟨h1,h2⟩:=look_clrL hk
   simp only [Act.put]
   rw [getD_set_ne (Ne.symm h1)]
   exact hto k u h2
mutual
theorem runP_sound (hT:TOk P ti) (hd:DOk c hr) {ops:Array Oper} (hsel:Region.noSelect ops=true) (hnt:∀ o ∈ ops.toList,∀ d,o.dst=some d→d < c.nt) {K:St→Prop} {Q:Exit→Act→World→Prop}
   (hpan:∀ x a w,¬ Q (.panic x) a w) (hQ:∀ s' a' w' A ρ,K s'→Rep c s' a' w' A ρ→(∀ b,c.A0 b→A b)→Q .normal a' w') :
   ∀ (pl:Plan) {f:Nat} {l:Array Bool} {to:List (Nat × AV)} {s:St} {a:Act} {w:World},okP ops f l pl=true→runP P ti ops.toList hr c.k0 pl to s K→DInv c to s a w→wpAnyH P .any ops Q (SD c) f l a w
 | .done,f,l,to,s,a,w,hok,h,⟨A,ρ,hrep,hA,hto⟩=>by
   have hok:(Region.ready .any ops l).isEmpty=true:=by cases f<;>(simp only [okP] at hok;exact hok)
   rw [runP] at h
   exact wpAnyH_done (List.isEmpty_iff.1 hok) (hQ s a w A ρ h hrep hA) f
 | .tak i r,0,l,to,s,a,w,hok,h,_=>by simp [okP] at hok
 | .tak i r, f + 1,l,to,s,a,w,hok,h,⟨A,ρ,hrep,hA,hto⟩=>by
   simp only [okP,Bool.and_eq_true] at hok
   obtain ⟨⟨⟨h1,h2⟩,h3⟩,h4⟩:=hok
   have ih:=fun {to s a w}=>runP_sound hT hd hsel hnt hpan hQ r (to:=to) (s:=s) (a:=a) (w:=w) h4
   rw [runP] at h
   cases ho':ops[i]? with
   | none=>rw [ho'] at h1;simp at h1
   | some o =>
     have ho:ops.toList[i]? = some o:=by simpa using ho'
     rw [ho'] at h1;dsimp only at h1
     rw [ho,takI] at h
     have hS:SD c w:=fun b hb hF=>hrep.frame b hb hF
     have hmem:o ∈ ops.toList:=List.mem_of_getElem? ho
     have hdl:∀ k,o.dst=some k→k < a.tmps.size:=fun k hk=>by rw [hrep.nt];exact hnt o hmem k hk
     have hdc:∀ k,o.dst=some k→k < c.nt:=fun k hk=>hnt o hmem k hk
     cases hb:wantA ops.toList s o.guard with
     | none=>rw [hb,takG] at h;exact h.elim
     | some bw =>
       obtain ⟨b,want⟩:=bw
       rw [hb,takG] at h
       have hw:=wantA_sound hrep hnt hb
       split at h
       · rename_i hbw
         have hw':Region.wanted o (yielded ops a.tmps)=true:=by rw [hw];simp [hbw]
         cases hao:aop ti ⟨to,hr,c.k0⟩ o.op with
         | some q =>
           obtain ⟨p,v,h',nx'⟩:=q
           rw [hao,takO] at h
           obtain ⟨hp,hK⟩:=h
           obtain ⟨_,_,y,hy1,hy2⟩:=quiet_sound hT (rep_old hd hrep hto) hao hp h1
           refine wpAnyH_take ho' hsel h2 h3 (fun x a w h=>absurd h (hpan x _ w)) (.inl ⟨hw',fun w1 hw1=>hy2 w1 (fun _ b hb=>?_)⟩) hS (ih hK ⟨A,ρ,hrep.put hdc (old_at hd hrep hA hy1),hA,keep_put hto hdl hy1⟩)
           rcases hb with hb|hb
           · exact hw1 b (hd.imm b hb).1 (hd.imm b hb).2
           · refine hw1 b ?_ (hd.ro b hb)
             obtain ⟨x,hx,hxr,m,hk⟩:=hb
             obtain ⟨b',m',hk',_,_,hlt⟩:=hd.heap.objs x hx hxr
             have hk:c.ρ0 x.1=some (b,m):=hk
             rw [hk] at hk';injection hk' with hk';injection hk' with e1 e2;subst e1;exact hlt
         | none =>
           rw [hao,takO] at h
           cases hlk:loadK o.op with
           | true =>
             rw [hlk,takW] at h
             · exact h.elim
             · intro _ _ _ _ h1 _;cases h1
           | false =>
             cases has:aop ti s o.op with
             | none =>
               rw [hlk,has,takW] at h
               · exact h.elim
               · intro _ _ _ _ _ h1;cases h1
             | some q =>
               obtain ⟨p,v,h',nx'⟩:=q
               rw [hlk,has,takW] at h
               obtain ⟨hp,hcv,hK⟩:=h
               have hno:¬ (loadK o.op=true ∨ (isCv o.op=true∧cvS v=true)):=by
                 rintro (h|⟨h,h'⟩)
                 · rw [hlk] at h;cases h
                 · rw [h] at hcv
                   have hcv:cvS v=false:=hcv
                   rw [hcv] at h';cases h'
               obtain ⟨_,_,y,hy1,hy2⟩:=quiet_sound hT hrep has hp h1
               exact wpAnyH_take ho' hsel h2 h3 (fun x a w h=>absurd h (hpan x _ w)) (.inl ⟨hw',fun w1 hw1=>hy2 w1 (fun h=>absurd h hno)⟩) hS (ih hK ⟨A,ρ,hrep.put hdc hy1,hA,keep_clr hto⟩)
       · rename_i hbw
         have hw':Region.wanted o (yielded ops a.tmps)=false:=by rw [hw];simpa using hbw
         exact wpAnyH_take ho' hsel h2 h3 (fun x a w h=>absurd h (hpan x _ w)) (.inr ⟨hw',rfl⟩) hS (ih h ⟨A,ρ,hrep.put hdc undef_at,hA,keep_clr hto⟩)
 | .all b,0,l,to,s,a,w,hok,h,_=>by simp [okP] at hok
 | .all b,f+1,l,to,s,a,w,hok,h,hi=>by
   simp only [okP,Bool.and_eq_true,decide_eq_true_eq] at hok
   obtain ⟨⟨h1,h2⟩,h3⟩:=hok
   rw [runP] at h
   refine wpAnyH_all h2 ?_ (runB_sound hT hd hsel hnt hpan hQ b h3 h hi)
   intro e;rw [h2,e] at h1;simp at h1
termination_by pl=>SizeOf.sizeOf pl
theorem runB_sound (hT:TOk P ti) (hd:DOk c hr) {ops:Array Oper} (hsel:Region.noSelect ops=true) (hnt:∀ o ∈ ops.toList,∀ d,o.dst=some d→d < c.nt) {K:St→Prop} {Q:Exit→Act→World→Prop}
   (hpan:∀ x a w,¬ Q (.panic x) a w) (hQ:∀ s' a' w' A ρ,K s'→Rep c s' a' w' A ρ→(∀ b,c.A0 b→A b)→Q .normal a' w') :
   ∀ (br:Br) {f:Nat} {l:Array Bool} {to:List (Nat × AV)} {s:St} {a:Act} {w:World},okB ops f l br=true→runB P ti ops.toList hr c.k0 br to s K→DInv c to s a w →
     ∀ i ∈ br.idx,wpOp P ops Q i (fun a' w'=>SD c w'∧wpAnyH P .any ops Q (SD c) f (l.setIfInBounds i true) a' w') a w
 | .nil,f,l,to,s,a,w,_,_,_=>by intro i hi;cases hi
 | .cons j p br,f,l,to,s,a,w,hok,h,hinv=>by
   simp only [okB,Bool.and_eq_true] at hok
   rw [runB] at h
   intro i hi
   rcases List.mem_cons.1 hi with hi|hi
   · rw [hi]
     obtain ⟨A,ρ,hrep,hA,hto⟩:=hinv
     have h:=h.1
     have ih:=fun {to s a w}=>runP_sound hT hd hsel hnt hpan hQ p (to:=to) (s:=s) (a:=a) (w:=w) hok.1
     have fin:∀ {to s a w},runP P ti ops.toList hr c.k0 p to s K→DInv c to s a w→SD c w∧wpAnyH P .any ops Q (SD c) f (l.setIfInBounds j true) a w:=by
       rintro to s a w h1 ⟨A,ρ,h2,h3⟩
       exact ⟨fun b hb hF=>h2.frame b hb hF,ih h1 ⟨A,ρ,h2,h3⟩⟩
     cases ho':ops[j]? with
     | none =>
       have ho:ops.toList[j]? = none:=by simpa using ho'
       rw [ho,effI] at h;exact h.elim
     | some o =>
       have ho:ops.toList[j]? = some o:=by simpa using ho'
       rw [ho,effI] at h
       have hmem:o ∈ ops.toList:=List.mem_of_getElem? ho
       have hdc:∀ k,o.dst=some k→k < c.nt:=fun k hk=>hnt o hmem k hk
       cases hb:wantA ops.toList s o.guard with
       | none=>rw [hb,effG] at h;exact h.elim
       | some bw =>
         obtain ⟨b,want⟩:=bw
         rw [hb,effG] at h
         have hw:=wantA_sound hrep hnt hb
         unfold wpOp
         simp only [ho']
         split at h
         · rename_i hbw
           have hw':Region.wanted o (yielded ops a.tmps)=true:=by rw [hw];simp [hbw]
           rw [if_pos hw']
           left
           unfold Oper.wp
           cases hc:callA ti s o.op with
           | some fl =>
             obtain ⟨fn,args⟩:=fl
             rw [hc,evR_call,effS] at h
             obtain ⟨hf,hcall⟩:=h
             obtain ⟨vs,h1,h2⟩:=callA_sound hT hrep hc hf
             rw [h1,Oper.upon_enter]
             refine (hcall c a w A ρ vs hrep h2).mono ?_
             rintro e w' ⟨y,v,h',nx,A',ρ',rfl,hK,hr',hv⟩
             have hu:=hr'.union hd
             exact fin hK ⟨_,ρ',hu.put hdc (hv.mono (fun b hb=>.inl hb) (fun _ _=>rfl) (fun _ _ h=>h)),fun b hb=>.inr hb,keep_clr hto⟩
           | none =>
             cases he:aop ti s o.op with
             | some r =>
               obtain ⟨p,v,h',nx⟩:=r
               rw [hc,he,evR_val,effS] at h
               obtain ⟨hp,hK⟩:=h
               obtain ⟨y,w',ρ',hran,hr',hv⟩:=aop_sound hT hrep he hp
               have hnext:=fin hK ⟨A,ρ',hr'.put hdc hv,hA,keep_clr hto⟩
               rcases hran with hran|⟨hran,rfl⟩
               · rw [hran,Oper.upon_value];exact hnext
               · rw [hran,Oper.upon_skip];exact hnext
             | none =>
               rw [hc,he] at h
               simp only [evR] at h
               rw [effS] at h;exact h.elim
         · rename_i hbw
           have hw':¬ Region.wanted o (yielded ops a.tmps)=true:=by rw [hw];simpa using hbw
           rw [if_neg hw']
           exact fin h ⟨A,ρ,hrep.put hdc undef_at,hA,keep_clr hto⟩
   · exact runB_sound hT hd hsel hnt hpan hQ br hok.2 h.2 hinv i hi
termination_by br=>SizeOf.sizeOf br
end
end
theorem pick_sub {ro:List Nat}:∀ {H:Heap},(pickH ro H).Sublist H
 | []=>List.Sublist.refl _
 | (k,o) ::r=>by
   simp only [pickH,cond_eq_ite]
   split
   · exact List.Sublist.cons_cons _ pick_sub
   · exact List.Sublist.cons _ pick_sub
theorem drop_sub {ro:List Nat}:∀ {H:Heap},(dropH ro H).Sublist H
 | []=>List.Sublist.refl _
 | (k,o) ::r=>by
   simp only [dropH,cond_eq_ite]
   split
   · exact List.Sublist.cons _ drop_sub
   · exact List.Sublist.cons_cons _ drop_sub
theorem pick_ro {ro:List Nat}:∀ {H:Heap} {x:Nat × AObj},x ∈ pickH ro H→memN x.1 ro=true
 | [],x,h=>by cases h
 | (k,o) ::r,x,h=>by
   simp only [pickH,cond_eq_ite] at h
   split at h
   · rename_i hk
     rcases List.mem_cons.1 h with h|h
     · rw [h];exact hk
     · exact pick_ro h
   · exact pick_ro h
theorem drop_ro {ro:List Nat}:∀ {H:Heap} {x:Nat × AObj},x ∈ dropH ro H→memN x.1 ro=false
 | [],x,h=>by cases h
 | (k,o) ::r,x,h=>by
   simp only [dropH,cond_eq_ite] at h
   split at h
   · exact drop_ro h
   · rename_i hk
     rcases List.mem_cons.1 h with h|h
     · rw [h];simpa only [Bool.not_eq_true] using hk
     · exact drop_ro h
theorem look_keepL {t:List (Nat × AV)} {k:Nat} {v:AV}:∀ {l:List Nat},look k (keepL t l)=some v→look k t=some v
 | [],h=>by simp [keepL,look] at h
 | j ::r,h=>by
   simp only [keepL] at h
   split at h
   · rename_i u hu
     simp only [look,cond_eq_ite] at h
     split at h
     · rename_i e
       have e:j=k:=by simpa using e
       subst e;injection h with h;subst h;exact hu
     · exact look_keepL h
   · exact look_keepL h
theorem AWp.draw {P:Program} {ti:Nat→Option TI} {c:Ctx} {Q:Exit→St→Prop} {s:St} (hT:TOk P ti) (hmix:P.follows .mixedOrders=true) {id:Nat} {ops:List Oper} (pl:Plan) (ro keep:List Nat)
   (hok:okP ⟨ops⟩ ops.length (Array.replicate ops.length false) pl=true) (hsel:Region.noSelect ⟨ops⟩=true) (hd:dstOk c.nt ops=true)
   (h:runP P ti ops (pickH ro s.h) s.nx pl (keepL s.t keep) ⟨s.t,dropH ro s.h,s.nx⟩ (fun s'=>Q .normal ⟨s'.t,pickH ro s.h++s'.h,s'.nx⟩)):AWp P c (.region id ⟨ops⟩ true) Q s:=by
 rintro a w ⟨A,ρ,hr0⟩
 have hr:=hr0.drew
 let c2:Ctx:={ w0:=w.drew,A0:=A,ρ0:=ρ,k0:=s.nx,F:=blkOf ρ (dropH ro s.h),nt:=c.nt,lo:=c.lo,hlo:=Nat.le_trans c.hlo hr.size,dm:=c.dm }
 have hblk:∀ {H:Heap},H.Sublist s.h→∀ b,blkOf ρ H b→b < w.drew.heap.size∧¬ A b∧(c.F b ∨ c.w0.heap.size≤b):=by
   rintro H hs b ⟨x,hx,hxr,m,hk⟩
   obtain ⟨b',m',hk',_,h3,h4⟩:=hr.heap.objs x (hs.subset hx) hxr
   rw [hk] at hk';injection hk' with hk';injection hk' with e1 e2;subst e1
   exact ⟨h4,h3,hr.own x (hs.subset hx) hxr b m hk⟩
 have hap:∀ b,blkOf ρ (pickH ro s.h) b→¬ blkOf ρ (dropH ro s.h) b:=by
   rintro b ⟨x,hx,hxr,m,hk⟩ ⟨y,hy,hyr,m',hk'⟩
   have hne:x.1 ≠ y.1:=by
     intro e
     have h1:=pick_ro hx
     have h2:=drop_ro hy
     rw [e,h2] at h1;cases h1
   exact inj_of hr.heap.inj (pick_sub.subset hx) (drop_sub.subset hy) hxr hyr hne _ _ hk hk' rfl
 have hdok:DOk c2 (pickH ro s.h) :=
   { heap:=hr.heap.sub pick_sub,imm:=fun b hb=>⟨(hr.imm b hb).1,fun hF=>(hblk drop_sub b hF).2.1 hb⟩,ro:=hap,new:=hr.new }
 have hrep2:Rep c2 ⟨s.t,dropH ro s.h,s.nx⟩ a w.drew A ρ :=
   { heap:=hr.heap.sub drop_sub,tmps:=hr.tmps,nt:=hr.nt,defers:=hr.defers,os:=rfl,tape:=rfl,output:=rfl,size:=Nat.le_refl _,frame:=fun _ _ _=>rfl,
     own:=fun x hx hxr b m hk=>.inl ⟨x,hx,hxr,m,hk⟩,imm:=fun b hb=>⟨(hr.imm b hb).1,.inl hb⟩,old:=fun _ _=>rfl,new:=hr.new,k0:=Nat.le_refl _ }
 have hnt:∀ o ∈ (⟨ops⟩:Array Oper).toList,∀ d,o.dst=some d→d < c2.nt:=by
   intro o ho d hod
   simp only [dstOk,List.all_eq_true] at hd
   have:=hd o ho
   rw [hod] at this
   simpa using this
 have key:=runP_sound (P:=P) (Q:=fun e a w=>e=.normal∧∃ s',Q .normal s'∧Abs c s' a w) hT hdok hsel hnt (fun x a w h=>by cases h.1) (K:=fun s'=>Q .normal ⟨s'.t,pickH ro s.h++s'.h,s'.nx⟩) (by
   intro s' a' w' A' ρ' hK hr' hA'
   refine ⟨rfl,_,hK,A',ρ',?_⟩
   have hρ:=rho_le hdok hr'
   have hkeep:∀ b,b < w.drew.heap.size→¬ c2.F b→w'.heap[b]? = w.drew.heap[b]?:=hr'.frame
   have himm':∀ b,A' b→b < w'.heap.size∧(A b ∨ c2.F b ∨ w.drew.heap.size≤b):=hr'.imm
   have hown':∀ x ∈ s'.h,x.2.real→∀ b m,ρ' x.1=some (b,m)→c2.F b ∨ w.drew.heap.size≤b:=hr'.own
   have hpick:∀ x ∈ pickH ro s.h,x.2.real→∃ b m,ρ' x.1=some (b,m)∧x.2.At w' A' ρ' b m∧¬ A' b∧b < w'.heap.size∧¬ c2.F b∧b < w.drew.heap.size∧ρ x.1=some (b,m):=by
     intro x hx hxr
     obtain ⟨b,m,h1,h2,h3,h4⟩:=hdok.heap.objs x hx hxr
     have h1:ρ x.1=some (b,m):=h1
     have h3:¬ A b:=h3
     have h4:b < w.drew.heap.size:=h4
     have hnF:¬ c2.F b:=hap b ⟨x,hx,hxr,m,h1⟩
     refine ⟨b,m,hρ _ _ h1,h2.mono hA' (fun b' hb'=>hkeep b' (hdok.imm b' hb').1 (hdok.imm b' hb').2) hρ (hkeep b h4 hnF),?_,Nat.lt_of_lt_of_le h4 hr'.size,hnF,h4,h1⟩
     intro hb
     rcases (himm' b hb).2 with h5|h5|h5
     · exact h3 h5
     · exact hnF h5
     · omega
   refine { heap:=⟨fun x hx hxr=>?_,?_⟩,tmps:=hr'.tmps,nt:=hr'.nt,defers:=hr'.defers,os:=hr'.os.trans hr.os,tape:=hr'.tape.trans hr.tape,output:=hr'.output.trans hr.output,size:=Nat.le_trans hr.size hr'.size,frame:=?_,own:=?_,imm:=?_,old:=?_,new:=hr'.new,k0:=Nat.le_trans hr.k0 hr'.k0 }
   · rcases List.mem_append.1 hx with hx|hx
     · obtain ⟨b,m,h1,h2,h3,h4,_⟩:=hpick x hx hxr
       exact ⟨b,m,h1,h2,h3,h4⟩
     · exact hr'.heap.objs x hx hxr
   · rw [List.pairwise_append]
     refine ⟨?_,hr'.heap.inj,?_⟩
     · refine List.Pairwise.imp_of_mem ?_ hdok.heap.inj
       intro x y hx hy hxy hxr hyr p q hp hq
       obtain ⟨b1,m1,e1,_,_,_,_,_,e1'⟩:=hpick x hx hxr
       obtain ⟨b2,m2,e2,_,_,_,_,_,e2'⟩:=hpick y hy hyr
       rw [e1] at hp;rw [e2] at hq
       injection hp with hp;injection hq with hq;subst hp;subst hq
       exact hxy hxr hyr _ _ e1' e2'
     · intro x hx y hy hxr hyr p q hp hq
       obtain ⟨b1,m1,e1,_,_,_,e5,e6,_⟩:=hpick x hx hxr
       rw [e1] at hp;injection hp with hp;subst hp
       obtain ⟨b2,m2⟩:=q
       show b1 ≠ b2
       rcases hown' y hy hyr b2 m2 hq with h5|h5
       · intro e;rw [e] at e5;exact e5 h5
       · omega
   · intro b hb hF
     have h1:b < w.drew.heap.size:=Nat.lt_of_lt_of_le hb hr.size
     rw [hkeep b h1 ?_]
     · exact hr.frame b hb hF
     · intro h2
       rcases (hblk drop_sub b h2).2.2 with h3|h3
       · exact hF h3
       · omega
   · intro x hx hxr b m hk
     rcases List.mem_append.1 hx with hx|hx
     · obtain ⟨b1,m1,e1,_,_,_,_,_,e2⟩:=hpick x hx hxr
       rw [e1] at hk;injection hk with hk;injection hk with e3 e4;subst e3
       exact hr.own x (pick_sub.subset hx) hxr _ _ e2
     · rcases hown' x hx hxr b m hk with h5|h5
       · exact (hblk drop_sub b h5).2.2
       · exact .inr (Nat.le_trans hr.size h5)
   · intro b hb
     refine ⟨(himm' b hb).1,?_⟩
     rcases (himm' b hb).2 with h5|h5|h5
     · exact (hr.imm b h5).2
     · exact .inr (hblk drop_sub b h5).2.2
     · exact .inr (.inr (Nat.le_trans hr.size h5))
   · intro h hh
     have:h < c2.k0:=Nat.lt_of_lt_of_le hh hr.k0
     rw [hr'.old h this];exact hr.old h hh) pl (f:=ops.length) (l:=Array.replicate ops.length false) (to:=keepL s.t keep) (s:=⟨s.t,dropH ro s.h,s.nx⟩) (a:=a) (w:=w.drew) hok h
   ⟨A,ρ,hrep2,fun _ h=>h,fun k v hk=>hr.tmps k v (look_keepL hk)⟩
 refine wp_mono (wp_region_held (S:=SD c2) (Q:=fun e a w=>e=.normal∧∃ s',Q .normal s'∧Abs c s' a w) hmix ?_) ?_
 · exact key
 · rintro e a' w' ⟨rfl,h⟩;exact h
end Go.Hw
namespace Go.Hw
open Go.Conc
def WpI (P:Program) (ops:Array Oper) (Q:Exit→Act→World→Prop) (l:List Nat) (a:Act) (w:World):Prop :=
 ∀ (b:Frame) (k:List Item) (cs:List Frame),∃ e a' w',Q e a' w'∧Arrives P (lone (b.at a (.inRegion ops l ::k)) cs w) b k cs e a' w'
section
variable {P:Program} {ops:Array Oper} {Q:Exit→Act→World→Prop} {a a':Act} {w w':World} {i:Nat} {rest:List Nat} {o:Oper} {v:Value} {b:Frame} {k:List Item} {cs:List Frame}
theorem wpI_nil (h:Q .normal a w):WpI P ops Q [] a w:=fun b k cs=>⟨.normal,a,w,h,.one step_region_end⟩
theorem wpI_step (hs:∀ (b:Frame) (k:List Item) (cs:List Frame),step P (lone (b.at a (.inRegion ops (i ::rest) ::k)) cs w)=.next (lone (b.at a' (.inRegion ops rest ::k)) cs w')) (h:WpI P ops Q rest a' w'):WpI P ops Q (i ::rest) a w :=
 fun b k cs=>let ⟨e,a2,w2,q,r⟩:=h b k cs;⟨e,a2,w2,q,.of_steps (.one (hs b k cs)) r⟩
theorem fin_at (ho:ops[i]? = some o):(b.at a (.inRegion ops (i ::rest) ::k)).finish v=b.at (a.put o.dst v) (.inRegion ops rest ::k):=by rw [Frame.finish_at,ho];rfl
theorem step_value (ho:ops[i]? = some o) (hw:Region.wanted o (yielded ops a.tmps)=true) (hr:(execOp a.eval o).run P w=.ok (.value v) w') :
   step P (lone (b.at a (.inRegion ops (i ::rest) ::k)) cs w)=.next (lone (b.at (a.put o.dst v) (.inRegion ops rest ::k)) cs w'):=by
 refine step_lone_go ?_
 rw [stepG_op ho hw,← fin_at ho]
 simp [stepG.apply,hr]
theorem step_skip (ho:ops[i]? = some o) (hw:Region.wanted o (yielded ops a.tmps)=true) (hr:(execOp a.eval o).run P w=.ok .skip w') :
   step P (lone (b.at a (.inRegion ops (i ::rest) ::k)) cs w)=.next (lone (b.at (a.put o.dst undef) (.inRegion ops rest ::k)) cs w'):=by
 refine step_lone_go ?_
 rw [stepG_op ho hw,← fin_at ho]
 simp [stepG.apply,hr]
theorem wpI_enter {f:FuncId} {args:Array Value} (ho:ops[i]? = some o) (hw:Region.wanted o (yielded ops a.tmps)=true) (hr:(execOp a.eval o).run P w=.ok (.enter f args) w')
   (h:Calls P f args w' fun
     | .returned v,w''=>WpI P ops Q rest (a.put o.dst v) w''
     | .panicked chain,w''=>Q (.panic chain) a w''
     | .outgrown,_=>False):WpI P ops Q (i ::rest) a w:=by
 intro b k cs
 obtain ⟨e,w'',fr,hR,hsteps,_,hleave⟩:=h (b.at a (.inRegion ops (i ::rest) ::k) ::cs)
 have henter:step P (lone (b.at a (.inRegion ops (i ::rest) ::k)) cs w)=.next (lone (Frame.enter P f args .normal) (b.at a (.inRegion ops (i ::rest) ::k) ::cs) w') :=
   step_lone_go (by rw [stepG_op ho hw];simp [stepG.apply,hr,Frame.at])
 cases e with
 | returned v =>
   obtain ⟨e,a',w₃,hq,harr⟩:=hR b k cs
   refine ⟨e,a',w₃,hq,.of_steps (.head henter (hsteps.trans (.one ?_))) harr⟩
   rw [← fin_at ho];exact step_leave_returned hleave
 | panicked chain =>
   refine ⟨.panic chain,a,w'',hR,.inRegion ops (i ::rest) ::k,.head henter (hsteps.trans (.one ?_))⟩
   rw [← Frame.raise_at];exact step_leave_panicked hleave
 | outgrown=>exact hR.elim
theorem wpI_panic (ho:ops[i]? = some o) (hw:Region.wanted o (yielded ops a.tmps)=true) (hr:(execOp a.eval o).run P w=.halt (.panic v) w') (h:Q (.panic [{ v,recovered:=false }]) a w'):WpI P ops Q (i ::rest) a w:=by
 intro b k cs
 refine ⟨_,a,w',h,.inRegion ops (i ::rest) ::k,.one (step_lone_go ?_)⟩
 rw [stepG_op ho hw,← Frame.raise_at];simp [stepG.apply,hr]
theorem step_send {c cap s r:Nat} {buf:Array Value} {z':Value} {tm:Bool} (ho:ops[i]? = some o) (hw:Region.wanted o (yielded ops a.tmps)=true) (hr:(execOp a.eval o).run P w=.ok (.comm #[scase c v z'] true .send) w)
   (hc:w.heap[c]? = some (.chan cap buf false s r tm)) (hroom:buf.size < cap) :
   step P (lone (b.at a (.inRegion ops (i ::rest) ::k)) cs w)=.next (lone (b.at (a.put o.dst undef) (.inRegion ops rest ::k)) cs (w.setChan c cap (buf.push v) false (s+1) r tm)):=by
 have h:∃ es,stepG P true (G (b.at a (.inRegion ops (i ::rest) ::k)) cs) w=.comm (G (b.at a (.inRegion ops (i ::rest) ::k)) cs) #[scase c v z'] true .send w es:=by
   have:=stepG_op (P:=P) (b:=b) (k:=k) (cs:=cs) (w:=w) (rest:=rest) ho hw
   simp only [G]
   rw [this]
   simp only [stepG.apply,Sem.runT_eq,hr,if_true]
   exact ⟨_,rfl⟩
 obtain ⟨es,h⟩:=h
 rw [← fin_at ho]
 exact step_lone_send_room h hc hroom
theorem step_recv {c cap s r:Nat} {buf:Array Value} {closed:Bool} {tm ok:Bool} {z:Value} (ho:ops[i]? = some o) (hw:Region.wanted o (yielded ops a.tmps)=true) (hr:(execOp a.eval o).run P w=.ok (.comm #[rcase c z] true (.recv ok)) w)
   (hc:w.heap[c]? = some (.chan cap buf closed s r tm)) (hsome:0 < buf.size) :
   step P (lone (b.at a (.inRegion ops (i ::rest) ::k)) cs w)=.next (lone (b.at (a.put o.dst (got ok (buf.getD 0 undef) true)) (.inRegion ops rest ::k)) cs (w.setChan c cap (buf.extract 1 buf.size) closed s (r+1) tm)):=by
 have h:∃ es,stepG P true (G (b.at a (.inRegion ops (i ::rest) ::k)) cs) w=.comm (G (b.at a (.inRegion ops (i ::rest) ::k)) cs) #[rcase c z] true (.recv ok) w es:=by
   have:=stepG_op (P:=P) (b:=b) (k:=k) (cs:=cs) (w:=w) (rest:=rest) ho hw
   simp only [G]
   rw [this]
   simp only [stepG.apply,Sem.runT_eq,hr,if_true]
   exact ⟨_,rfl⟩
 obtain ⟨es,h⟩:=h
 rw [← fin_at ho]
 exact step_lone_recv_buf ok h hc hsome
theorem step_recv_shut {c cap s r:Nat} {tm ok:Bool} {z:Value} (ho:ops[i]? = some o) (hw:Region.wanted o (yielded ops a.tmps)=true) (hr:(execOp a.eval o).run P w=.ok (.comm #[rcase c z] true (.recv ok)) w)
   (hc:w.heap[c]? = some (.chan cap #[] true s r tm)) :
   step P (lone (b.at a (.inRegion ops (i ::rest) ::k)) cs w)=.next (lone (b.at (a.put o.dst (got ok z false)) (.inRegion ops rest ::k)) cs w):=by
 have h:∃ es,stepG P true (G (b.at a (.inRegion ops (i ::rest) ::k)) cs) w=.comm (G (b.at a (.inRegion ops (i ::rest) ::k)) cs) #[rcase c z] true (.recv ok) w es:=by
   have:=stepG_op (P:=P) (b:=b) (k:=k) (cs:=cs) (w:=w) (rest:=rest) ho hw
   simp only [G]
   rw [this]
   simp only [stepG.apply,Sem.runT_eq,hr,if_true]
   exact ⟨_,rfl⟩
 obtain ⟨es,h⟩:=h
 rw [← fin_at ho]
 exact step_lone_recv_shut ok h hc
end
def AWpI (P:Program) (c:Ctx) (ops:List Oper) (n:Nat) (Q:Exit→St→Prop) (s:St):Prop :=
 ∀ a w,Abs c s a w→WpI P ⟨ops⟩ (fun e a' w'=>∃ s',Q e s'∧Abs c s' a' w') (List.range' n (ops.length - n)) a w
section
variable {P:Program} {ti:Nat→Option TI} {c:Ctx} {Q:Exit→St→Prop} {s:St} {ops:List Oper} {n:Nat}
theorem AWp.regionI {id:Nat} (h:AWpI P c ops 0 Q s):AWp P c (.region id ⟨ops⟩ false) Q s:=by
 intro a w ha b k cs
 obtain ⟨e,a',w',q,r⟩:=h a w ha b k cs
 refine ⟨e,a',w',q,.of_steps (.one step_region) ?_⟩
 rw [List.range_eq_range'];exact r
theorem AWpI.done (hn:ops.length≤n) (h:Q .normal s):AWpI P c ops n Q s:=by
 intro a w ha
 rw [show ops.length - n=0 by omega]
 exact wpI_nil ⟨s,h,ha⟩
theorem range_cons {i:Nat} (h:n < ops.length):List.range' n (ops.length - n)=n ::List.range' (n+1) (ops.length - (n+1)):=by
 rw [show ops.length - n=ops.length - (n+1)+1 by omega,List.range'_succ]
theorem AWpI.run (hT:TOk P ti) (hnt:dstOk c.nt ops=true):∀ {pre:List Oper} {n:Nat} {s:St} {K:St→Prop},(∀ s,K s→AWpI P c ops (n+pre.length) Q s)→(∀ i,i < pre.length→ops[n+i]? = pre[i]?)→runR P ti ops pre s K→AWpI P c ops n Q s
 | [],n,s,K,hK,_,h=>by
   rw [runR] at h;exact hK s h
 | o ::pre,n,s,K,hK,hsub,h=>by
   rintro a w ⟨A,ρ,hr⟩
   have hn:ops[n]? = some o:=by simpa using hsub 0 (by simp)
   have hlt:n < ops.length:=(List.getElem?_eq_some_iff.1 hn).1
   have hmem:o ∈ ops:=List.mem_of_getElem? hn
   have hdt:∀ o ∈ (⟨ops⟩:Array Oper).toList,∀ d,o.dst=some d→d < c.nt:=by
     intro o ho d hod
     simp only [dstOk,List.all_eq_true] at hnt
     have:=hnt o ho
     rw [hod] at this
     simpa using this
   have hd:∀ k,o.dst=some k→k < c.nt:=fun k hk=>hdt o hmem k hk
   have ho:(⟨ops⟩:Array Oper)[n]? = some o:=by simpa using hn
   have next:∀ {s':St},runR P ti ops pre s' K→AWpI P c ops (n+1) Q s':=fun {s'} h'=>AWpI.run hT hnt (n:=n+1) (K:=K) (fun s hs=>by have:=hK s hs;rw [show n+(o ::pre).length=n+1+pre.length by simp;omega] at this;exact this) (fun i hi=>by
     have:=hsub (i+1) (by simpa using hi)
     rw [show n+1+i=n+(i+1) by omega];simpa using this) h'
   rw [range_cons (i:=n) hlt]
   rw [runR] at h
   cases hb:wantA ops s o.guard with
   | none=>rw [hb,runG] at h;exact h.elim
   | some bw =>
     obtain ⟨b,want⟩:=bw
     rw [hb,runG] at h
     have hw:=wantA_sound (ops:=⟨ops⟩) hr hdt hb
     cases hbw:b == want with
     | true =>
       have hbw':b=want:=by simpa using hbw
       rw [if_pos hbw'] at h
       rw [hbw] at hw
       cases hc:callA ti s o.op with
       | some fl =>
         obtain ⟨f,args⟩:=fl
         rw [hc,evR_call,runS] at h
         obtain ⟨hf,hcall⟩:=h
         obtain ⟨vs,h1,h2⟩:=callA_sound hT hr hc hf
         refine wpI_enter ho hw h1 ((hcall c a w A ρ vs hr h2).mono ?_)
         rintro e w' ⟨y,v,h',nx,A',ρ',rfl,hK',hr',hv⟩
         exact next hK' _ _ ⟨A',ρ',hr'.put hd hv⟩
       | none =>
         cases he:aop ti s o.op with
         | some r =>
           obtain ⟨p,v,h',nx⟩:=r
           rw [hc,he,evR_val,runS] at h
           obtain ⟨hp,hK'⟩:=h
           obtain ⟨y,w',ρ',hran,hr',hv⟩:=aop_sound hT hr he hp
           have hnext:=next hK' _ _ ⟨A,ρ',hr'.put hd hv⟩
           rcases hran with hran|⟨hran,rfl⟩
           · exact wpI_step (fun b k cs=>step_value ho hw hran) hnext
           · exact wpI_step (fun b k cs=>step_skip ho hw hran) hnext
         | none =>
           rw [hc,he] at h
           simp only [evR] at h
           rw [runS] at h;exact h.elim
     | false =>
       have hbw':¬ b=want:=by simpa using hbw
       rw [if_neg hbw'] at h
       rw [hbw] at hw
       have hnext:=next h _ _ ⟨A,ρ,hr.put hd undef_at⟩
       refine wpI_step (fun b k cs=>?_) hnext
       have:=step_op_skip (P:=P) (b:=b) (a:=a) (k:=k) (cs:=cs) (w:=w) (ops:=⟨ops⟩) (i:=n) (rest:=List.range' (n+1) (ops.length - (n+1))) (by simp only [ho,Option.map_some,Option.getD_some];exact hw)
       simp only [ho,Option.bind_some] at this
       exact this
theorem wanted_none {o:Oper} {a:Act} (hg:o.guard=none):Region.wanted o (yielded (⟨ops⟩:Array Oper) a.tmps)=true:=by simp [Region.wanted,hg]
theorem AWpI.panic {o:Oper} {x:Operand} {d:TypeId} (hn:ops[n]? = some o) (hg:o.guard=none) (ho:o.op=.panic x) (hx:evO s x=some (.o (.c (.t (.v (.iface d (.agg #[])))))))
   (h:Q (.panic [{ v:=.iface d (.agg #[]),recovered:=false }]) s):AWpI P c ops n Q s:=by
 rintro a w ⟨A,ρ,hr⟩
 rw [range_cons (i:=n) (List.getElem?_eq_some_iff.1 hn).1]
 refine wpI_panic (o:=o) (by simpa using hn) (wanted_none hg) (v:=.iface d (.agg #[])) (w':=w) ?_ ⟨s,h,A,ρ,hr⟩
 have h1:a.eval x=.iface d (.agg #[]):=(evO_sound hr hx).1
 obtain ⟨_,op,_,_,_,_⟩:=o
 dsimp only at ho;subst ho
 simp [execOp,h1,Instr.panic]
theorem AWpI.bytes (hT:TOk P ti) (hnt:dstOk c.nt ops=true) {o:Oper} {x:Operand} {src dst e:TypeId} {ta tb te:TI} {s8:ByteArray} (hn:ops[n]? = some o) (hg:o.guard=none) (ho:o.op=.convert src dst x) (hx:evO s x=some (.o (.c (.t (.v (.string s8))))))
   (hta:ti src=some ta) (htb:ti dst=some tb) (hte:ti e=some te) (hk1:ta.k=.str) (hk2:tb.k=.sli e) (hk3:te.k=.int .u8)
   (h:AWpI P c ops (n+1) Q (s.put o.dst (.o (.c (.t (.sl 1 s8.size fun i _=>.v (.int .u8 (s8.data.toList.getD i 0).toNat))))))):AWpI P c ops n Q s:=by
 rintro a w ⟨A,ρ,hr⟩
 have ho':(⟨ops⟩:Array Oper)[n]? = some o:=by simpa using hn
 rw [range_cons (i:=n) (List.getElem?_eq_some_iff.1 hn).1]
 have h1:a.eval x=.string s8:=(evO_sound hr hx).1
 have hd:∀ k,o.dst=some k→k < c.nt:=by
   intro d hod
   simp only [dstOk,List.all_eq_true] at hnt
   have:=hnt o (List.mem_of_getElem? hn)
   rw [hod] at this
   simpa using this
 obtain ⟨u1,hu1,hr1⟩:=run_und (hT _ _ hta) w
 obtain ⟨u2,hu2,hr2⟩:=run_und (hT _ _ htb) w
 obtain ⟨u3,hu3,hr3⟩:=run_und (hT _ _ hte) w
 have hconv:(convert src dst (.string s8)).run P w=.ok (.slice (some ⟨w.heap.size,0,none⟩) s8.size (grownCap w s8.size 0 e)) (Lib.bytesWorld w e s8):=by
   have hsh:∀ c:Array Value,(w.drew.alloc (.cells c e)).shape? w.heap.size=some (e,c.size):=by
     intro c
     simp [World.shape?,World.alloc,World.drew,-World.alloc_eq,-World.drew_eq]
   rw [hk1] at hu1;rw [hk2] at hu2;rw [hk3] at hu3
   cases u1<;>simp only [kindOf,reduceCtorEq] at hu1
   cases u2<;>simp only [kindOf,reduceCtorEq,TK.sli.injEq] at hu2
   cases u3<;>simp only [kindOf,reduceCtorEq,TK.int.injEq] at hu3
   subst hu2;subst hu3
   simp [convert,hr1,hr2,hr3,Conv.stringToBytes,newRow,markStringish,Question.forced,Lib.bytesWorld,Lib.bytesCells,grownCap,hsh,Result.andThen]
 have hop:(execOp a.eval o).run P w=.ok (.value (.slice (some ⟨w.heap.size,0,none⟩) s8.size (grownCap w s8.size 0 e))) (Lib.bytesWorld w e s8):=by
   obtain ⟨_,op,_,_,_,_⟩:=o
   dsimp only at ho;subst ho
   simp [execOp,h1,hconv]
 refine wpI_step (fun b k cs=>step_value ho' (wanted_none hg) hop) (h _ _ ?_)
 have hcap:s8.size≤grownCap w s8.size 0 e:=by
   simp only [grownCap,Question.cut];omega
 refine ⟨fun b=>A b ∨ b=w.heap.size,ρ,Rep.put (hr.change (w':=Lib.bytesWorld w e s8) (H':=s.h) (nx':=s.nx) (ρ':=ρ) (blk:=fun _=>False) rfl rfl rfl (by rw [Lib.bytesWorld_size];omega) (fun b hb _=>Lib.bytesWorld_at_old w e s8 b hb) (fun _ h _=>h.elim) (fun _ h=>.inl h) ?_ (fun _ _ h=>h) hr.new (fun _ _=>rfl) (Nat.le_refl _) hr.own ⟨fun x hx hxr=>?_,hr.heap.inj⟩) hd ?_⟩
 · rintro b (hb|rfl)
   · exact ⟨by rw [Lib.bytesWorld_size];have:=(hr.imm b hb).1;omega,.inl hb⟩
   · exact ⟨by rw [Lib.bytesWorld_size];omega,.inr (.inr hr.size)⟩
 · obtain ⟨b,m,e1,e2,e3,e4⟩:=hr.heap.objs x hx hxr
   refine ⟨b,m,e1,e2.mono (fun _ h=>.inl h) (fun b' hb'=>Lib.bytesWorld_at_old w e s8 b' (hr.imm b' hb').1) (fun _ _ h=>h) (Lib.bytesWorld_at_old w e s8 b e4),?_,by rw [Lib.bytesWorld_size];omega⟩
   rintro (hb|rfl)
   · exact e3 hb
   · omega
 · refine ⟨some ⟨w.heap.size,0,none⟩,_,rfl,hcap,fun i hi=>⟨w.heap.size,0,rfl,.inr rfl,fun j hj=>?_⟩⟩
   have hj0:j=0:=by omega
   subst hj0
   refine ⟨_,by rw [Nat.zero_add,Nat.mul_one,Nat.add_zero];exact Lib.bytesWorld_cell w e s8 i hi,rfl,rfl⟩
end
end Go.Hw
namespace Go.Hw
open Go.Proofs
def tis:List (Nat × TI):=[
 (1,⟨.sc,1,8,[.nilFunc],false,[]⟩),
 (2,⟨.int .i64,1,8,[.int .i64 0],false,[]⟩),
 (3,⟨.int .i64,1,8,[.int .i64 0],false,[]⟩),
 (4,⟨.bl,1,1,[.bool false],false,[]⟩),
 (5,⟨.int .u8,1,1,[.int .u8 0],false,[]⟩),
 (6,⟨.int .u8,1,1,[.int .u8 0],false,[]⟩),
 (7,⟨.st [(0,2),(1,3),(2,4),(3,6)],4,24,[.int .i64 0,.int .i64 0,.bool false,.int .u8 0],false,[]⟩),
 (8,⟨.st [(0,2),(1,3),(2,4),(3,6)],4,24,[.int .i64 0,.int .i64 0,.bool false,.int .u8 0],false,[]⟩),
 (9,⟨.str,1,16,[.string ⟨#[]⟩],false,[]⟩),
 (11,⟨.str,1,16,[.string ⟨#[]⟩],false,[]⟩),
 (12,⟨.int .u64,1,8,[.int .u64 0],false,[]⟩),
 (13,⟨.st [(0,9),(1,12)],2,24,[.string ⟨#[]⟩,.int .u64 0],false,[]⟩),
 (20,⟨.sc,1,16,[.nilIface],false,[]⟩),
 (22,⟨.sli 5,1,24,[.slice none 0 0],false,[]⟩),
 (27,⟨.pt,1,8,[.pointer none],false,[]⟩),
 (32,⟨.pt,1,8,[.pointer none],false,[]⟩),
 (33,⟨.pt,1,8,[.pointer none],false,[]⟩),
 (35,⟨.pt,1,8,[.pointer none],false,[]⟩),
 (37,⟨.st [(0,35),(1,22)],2,32,[.pointer none,.slice none 0 0],false,[]⟩),
 (39,⟨.st [(0,33),(1,37)],3,40,[.pointer none,.pointer none,.slice none 0 0],false,[]⟩),
 (40,⟨.sli 9,1,24,[.slice none 0 0],false,[]⟩),
 (44,⟨.sli 95,1,24,[.slice none 0 0],false,[]⟩),
 (46,⟨.st [(0,44)],1,24,[.slice none 0 0],false,[]⟩),
 (53,⟨.st [(0,22),(1,3)],2,32,[.slice none 0 0,.int .i64 0],false,[]⟩),
 (56,⟨.pt,1,8,[.pointer none],false,[]⟩),
 (57,⟨.arr 2 56,2,16,[.pointer none,.pointer none],false,[]⟩),
 (59,⟨.st [(0,57)],2,16,[.pointer none,.pointer none],false,[]⟩),
 (63,⟨.st [],0,0,[],false,[]⟩),
 (66,⟨.sc,1,16,[.nilIface],false,[]⟩),
 (74,⟨.st [(0,3),(1,3),(2,3),(3,3),(4,3),(5,3),(6,3)],7,56,[.int .i64 0,.int .i64 0,.int .i64 0,.int .i64 0,.int .i64 0,.int .i64 0,.int .i64 0],true,[]⟩),
 (76,⟨.st [(0,3),(1,3),(2,3),(3,3),(4,74)],11,88,[.int .i64 0,.int .i64 0,.int .i64 0,.int .i64 0,.int .i64 0,.int .i64 0,.int .i64 0,.int .i64 0,.int .i64 0,.int .i64 0,.int .i64 0],false,[]⟩),
 (78,⟨.sli 3,1,24,[.slice none 0 0],false,[]⟩),
 (80,⟨.st [(0,78),(1,78),(2,3)],3,56,[.slice none 0 0,.slice none 0 0,.int .i64 0],false,[]⟩),
 (81,⟨.sli 74,1,24,[.slice none 0 0],false,[]⟩),
 (82,⟨.sli 4,1,24,[.slice none 0 0],false,[]⟩),
 (84,⟨.st [(0,3),(1,3),(2,3),(3,81),(4,82),(5,82),(6,78)],7,120,[.int .i64 0,.int .i64 0,.int .i64 0,.slice none 0 0,.slice none 0 0,.slice none 0 0,.slice none 0 0],false,[]⟩),
 (85,⟨.pt,1,8,[.pointer none],false,[]⟩),
 (87,⟨.st [(0,80),(3,3),(4,84),(11,85),(12,3),(13,78)],14,224,[.slice none 0 0,.slice none 0 0,.int .i64 0,.int .i64 0,.int .i64 0,.int .i64 0,.int .i64 0,.slice none 0 0,.slice none 0 0,.slice none 0 0,.slice none 0 0,.pointer none,.int .i64 0,.slice none 0 0],false,[]⟩),
 (92,⟨.pt,1,8,[.pointer none],false,[]⟩),
 (93,⟨.sli 84,1,24,[.slice none 0 0],false,[]⟩),
 (95,⟨.st [(0,3),(1,80),(4,84),(11,93),(12,78)],13,232,[.int .i64 0,.slice none 0 0,.slice none 0 0,.int .i64 0,.int .i64 0,.int .i64 0,.int .i64 0,.slice none 0 0,.slice none 0 0,.slice none 0 0,.slice none 0 0,.slice none 0 0,.slice none 0 0],false,[]⟩),
 (108,⟨.sc,1,8,[.chan none],false,[]⟩),
 (118,⟨.st [(0,84),(7,3)],8,128,[.int .i64 0,.int .i64 0,.int .i64 0,.slice none 0 0,.slice none 0 0,.slice none 0 0,.slice none 0 0,.int .i64 0],false,[]⟩),
 (133,⟨.sc,1,8,[.pointer none],false,[]⟩),
 (135,⟨.arr 5 3,5,40,[.int .i64 0,.int .i64 0,.int .i64 0,.int .i64 0,.int .i64 0],false,[]⟩),
 (136,⟨.sc,1,8,[.chan none],false,[]⟩),
 (140,⟨.pt,1,8,[.pointer none],false,[]⟩),
 (143,⟨.sc,1,8,[.nilFunc],false,[]⟩),
 (147,⟨.mp 3 3,1,8,[.map none],false,[]⟩),
 (149,⟨.st [(0,147),(1,147),(2,3)],3,24,[.map none,.map none,.int .i64 0],false,[]⟩),
 (167,⟨.st [(0,84),(7,85)],8,128,[.int .i64 0,.int .i64 0,.int .i64 0,.slice none 0 0,.slice none 0 0,.slice none 0 0,.slice none 0 0,.pointer none],false,[]⟩),
 (187,⟨.sc,1,16,[.nilIface],false,[]⟩),
 (211,⟨.sc,1,8,[.nilFunc],false,[]⟩),
 (212,⟨.sc,1,8,[.nilFunc],false,[]⟩),
 (214,⟨.st [(0,3),(1,211),(2,212)],3,24,[.int .i64 0,.nilFunc,.nilFunc],false,[]⟩),
 (217,⟨.arr 7 3,7,56,[.int .i64 0,.int .i64 0,.int .i64 0,.int .i64 0,.int .i64 0,.int .i64 0,.int .i64 0],false,[]⟩),
 (220,⟨.sc,1,16,[.nilIface],false,[]⟩),
 (227,⟨.st [],0,0,[],false,[("loop.example/hawser/impl.settled",239)]⟩),
 (228,⟨.st [],0,0,[],false,[("loop.example/hawser/impl.settled",240)]⟩),
 (229,⟨.st [],0,0,[],false,[("loop.example/hawser/impl.settled",241)]⟩),
 (238,⟨.sli 214,1,24,[.slice none 0 0],false,[]⟩),
 (245,⟨.sc,1,16,[.nilIface],false,[]⟩),
 (248,⟨.sc,1,16,[.nilIface],false,[]⟩),
 (250,⟨.sc,1,16,[.nilIface],false,[]⟩),
 (251,⟨.sli 66,1,24,[.slice none 0 0],false,[]⟩),
 (268,⟨.pt,1,8,[.pointer none],false,[]⟩),
 (270,⟨.st [(0,9)],1,16,[.string ⟨#[]⟩],false,[]⟩)
]
def ti (t:Nat):Option TI:=look t tis
@[go_sem] theorem ti_1:ti 1=some ⟨.sc,1,8,[.nilFunc],false,[]⟩:=by kernel_rfl
@[go_sem] theorem ti_2:ti 2=some ⟨.int .i64,1,8,[.int .i64 0],false,[]⟩:=by kernel_rfl
@[go_sem] theorem ti_3:ti 3=some ⟨.int .i64,1,8,[.int .i64 0],false,[]⟩:=by kernel_rfl
@[go_sem] theorem ti_4:ti 4=some ⟨.bl,1,1,[.bool false],false,[]⟩:=by kernel_rfl
@[go_sem] theorem ti_5:ti 5=some ⟨.int .u8,1,1,[.int .u8 0],false,[]⟩:=by kernel_rfl
@[go_sem] theorem ti_6:ti 6=some ⟨.int .u8,1,1,[.int .u8 0],false,[]⟩:=by kernel_rfl
@[go_sem] theorem ti_7:ti 7=some ⟨.st [(0,2),(1,3),(2,4),(3,6)],4,24,[.int .i64 0,.int .i64 0,.bool false,.int .u8 0],false,[]⟩:=by kernel_rfl
@[go_sem] theorem ti_8:ti 8=some ⟨.st [(0,2),(1,3),(2,4),(3,6)],4,24,[.int .i64 0,.int .i64 0,.bool false,.int .u8 0],false,[]⟩:=by kernel_rfl
@[go_sem] theorem ti_9:ti 9=some ⟨.str,1,16,[.string ⟨#[]⟩],false,[]⟩:=by kernel_rfl
@[go_sem] theorem ti_11:ti 11=some ⟨.str,1,16,[.string ⟨#[]⟩],false,[]⟩:=by kernel_rfl
@[go_sem] theorem ti_12:ti 12=some ⟨.int .u64,1,8,[.int .u64 0],false,[]⟩:=by kernel_rfl
@[go_sem] theorem ti_13:ti 13=some ⟨.st [(0,9),(1,12)],2,24,[.string ⟨#[]⟩,.int .u64 0],false,[]⟩:=by kernel_rfl
@[go_sem] theorem ti_20:ti 20=some ⟨.sc,1,16,[.nilIface],false,[]⟩:=by kernel_rfl
@[go_sem] theorem ti_22:ti 22=some ⟨.sli 5,1,24,[.slice none 0 0],false,[]⟩:=by kernel_rfl
@[go_sem] theorem ti_27:ti 27=some ⟨.pt,1,8,[.pointer none],false,[]⟩:=by kernel_rfl
@[go_sem] theorem ti_32:ti 32=some ⟨.pt,1,8,[.pointer none],false,[]⟩:=by kernel_rfl
@[go_sem] theorem ti_33:ti 33=some ⟨.pt,1,8,[.pointer none],false,[]⟩:=by kernel_rfl
@[go_sem] theorem ti_35:ti 35=some ⟨.pt,1,8,[.pointer none],false,[]⟩:=by kernel_rfl
@[go_sem] theorem ti_37:ti 37=some ⟨.st [(0,35),(1,22)],2,32,[.pointer none,.slice none 0 0],false,[]⟩:=by kernel_rfl
@[go_sem] theorem ti_39:ti 39=some ⟨.st [(0,33),(1,37)],3,40,[.pointer none,.pointer none,.slice none 0 0],false,[]⟩:=by kernel_rfl
@[go_sem] theorem ti_40:ti 40=some ⟨.sli 9,1,24,[.slice none 0 0],false,[]⟩:=by kernel_rfl
@[go_sem] theorem ti_44:ti 44=some ⟨.sli 95,1,24,[.slice none 0 0],false,[]⟩:=by kernel_rfl
@[go_sem] theorem ti_46:ti 46=some ⟨.st [(0,44)],1,24,[.slice none 0 0],false,[]⟩:=by kernel_rfl
@[go_sem] theorem ti_53:ti 53=some ⟨.st [(0,22),(1,3)],2,32,[.slice none 0 0,.int .i64 0],false,[]⟩:=by kernel_rfl
@[go_sem] theorem ti_56:ti 56=some ⟨.pt,1,8,[.pointer none],false,[]⟩:=by kernel_rfl
@[go_sem] theorem ti_57:ti 57=some ⟨.arr 2 56,2,16,[.pointer none,.pointer none],false,[]⟩:=by kernel_rfl
@[go_sem] theorem ti_59:ti 59=some ⟨.st [(0,57)],2,16,[.pointer none,.pointer none],false,[]⟩:=by kernel_rfl
@[go_sem] theorem ti_63:ti 63=some ⟨.st [],0,0,[],false,[]⟩:=by kernel_rfl
@[go_sem] theorem ti_66:ti 66=some ⟨.sc,1,16,[.nilIface],false,[]⟩:=by kernel_rfl
@[go_sem] theorem ti_74:ti 74=some ⟨.st [(0,3),(1,3),(2,3),(3,3),(4,3),(5,3),(6,3)],7,56,[.int .i64 0,.int .i64 0,.int .i64 0,.int .i64 0,.int .i64 0,.int .i64 0,.int .i64 0],true,[]⟩:=by kernel_rfl
@[go_sem] theorem ti_76:ti 76=some ⟨.st [(0,3),(1,3),(2,3),(3,3),(4,74)],11,88,[.int .i64 0,.int .i64 0,.int .i64 0,.int .i64 0,.int .i64 0,.int .i64 0,.int .i64 0,.int .i64 0,.int .i64 0,.int .i64 0,.int .i64 0],false,[]⟩:=by kernel_rfl
@[go_sem] theorem ti_78:ti 78=some ⟨.sli 3,1,24,[.slice none 0 0],false,[]⟩:=by kernel_rfl
@[go_sem] theorem ti_80:ti 80=some ⟨.st [(0,78),(1,78),(2,3)],3,56,[.slice none 0 0,.slice none 0 0,.int .i64 0],false,[]⟩:=by kernel_rfl
@[go_sem] theorem ti_81:ti 81=some ⟨.sli 74,1,24,[.slice none 0 0],false,[]⟩:=by kernel_rfl
@[go_sem] theorem ti_82:ti 82=some ⟨.sli 4,1,24,[.slice none 0 0],false,[]⟩:=by kernel_rfl
@[go_sem] theorem ti_84:ti 84=some ⟨.st [(0,3),(1,3),(2,3),(3,81),(4,82),(5,82),(6,78)],7,120,[.int .i64 0,.int .i64 0,.int .i64 0,.slice none 0 0,.slice none 0 0,.slice none 0 0,.slice none 0 0],false,[]⟩:=by kernel_rfl
@[go_sem] theorem ti_85:ti 85=some ⟨.pt,1,8,[.pointer none],false,[]⟩:=by kernel_rfl
@[go_sem] theorem ti_87:ti 87=some ⟨.st [(0,80),(3,3),(4,84),(11,85),(12,3),(13,78)],14,224,[.slice none 0 0,.slice none 0 0,.int .i64 0,.int .i64 0,.int .i64 0,.int .i64 0,.int .i64 0,.slice none 0 0,.slice none 0 0,.slice none 0 0,.slice none 0 0,.pointer none,.int .i64 0,.slice none 0 0],false,[]⟩:=by kernel_rfl
@[go_sem] theorem ti_92:ti 92=some ⟨.pt,1,8,[.pointer none],false,[]⟩:=by kernel_rfl
@[go_sem] theorem ti_93:ti 93=some ⟨.sli 84,1,24,[.slice none 0 0],false,[]⟩:=by kernel_rfl
@[go_sem] theorem ti_95:ti 95=some ⟨.st [(0,3),(1,80),(4,84),(11,93),(12,78)],13,232,[.int .i64 0,.slice none 0 0,.slice none 0 0,.int .i64 0,.int .i64 0,.int .i64 0,.int .i64 0,.slice none 0 0,.slice none 0 0,.slice none 0 0,.slice none 0 0,.slice none 0 0,.slice none 0 0],false,[]⟩:=by kernel_rfl
@[go_sem] theorem ti_108:ti 108=some ⟨.sc,1,8,[.chan none],false,[]⟩:=by kernel_rfl
@[go_sem] theorem ti_118:ti 118=some ⟨.st [(0,84),(7,3)],8,128,[.int .i64 0,.int .i64 0,.int .i64 0,.slice none 0 0,.slice none 0 0,.slice none 0 0,.slice none 0 0,.int .i64 0],false,[]⟩:=by kernel_rfl
@[go_sem] theorem ti_133:ti 133=some ⟨.sc,1,8,[.pointer none],false,[]⟩:=by kernel_rfl
@[go_sem] theorem ti_135:ti 135=some ⟨.arr 5 3,5,40,[.int .i64 0,.int .i64 0,.int .i64 0,.int .i64 0,.int .i64 0],false,[]⟩:=by kernel_rfl
@[go_sem] theorem ti_136:ti 136=some ⟨.sc,1,8,[.chan none],false,[]⟩:=by kernel_rfl
@[go_sem] theorem ti_140:ti 140=some ⟨.pt,1,8,[.pointer none],false,[]⟩:=by kernel_rfl
@[go_sem] theorem ti_143:ti 143=some ⟨.sc,1,8,[.nilFunc],false,[]⟩:=by kernel_rfl
@[go_sem] theorem ti_147:ti 147=some ⟨.mp 3 3,1,8,[.map none],false,[]⟩:=by kernel_rfl
@[go_sem] theorem ti_149:ti 149=some ⟨.st [(0,147),(1,147),(2,3)],3,24,[.map none,.map none,.int .i64 0],false,[]⟩:=by kernel_rfl
@[go_sem] theorem ti_167:ti 167=some ⟨.st [(0,84),(7,85)],8,128,[.int .i64 0,.int .i64 0,.int .i64 0,.slice none 0 0,.slice none 0 0,.slice none 0 0,.slice none 0 0,.pointer none],false,[]⟩:=by kernel_rfl
@[go_sem] theorem ti_187:ti 187=some ⟨.sc,1,16,[.nilIface],false,[]⟩:=by kernel_rfl
@[go_sem] theorem ti_211:ti 211=some ⟨.sc,1,8,[.nilFunc],false,[]⟩:=by kernel_rfl
@[go_sem] theorem ti_212:ti 212=some ⟨.sc,1,8,[.nilFunc],false,[]⟩:=by kernel_rfl
@[go_sem] theorem ti_214:ti 214=some ⟨.st [(0,3),(1,211),(2,212)],3,24,[.int .i64 0,.nilFunc,.nilFunc],false,[]⟩:=by kernel_rfl
@[go_sem] theorem ti_217:ti 217=some ⟨.arr 7 3,7,56,[.int .i64 0,.int .i64 0,.int .i64 0,.int .i64 0,.int .i64 0,.int .i64 0,.int .i64 0],false,[]⟩:=by kernel_rfl
@[go_sem] theorem ti_220:ti 220=some ⟨.sc,1,16,[.nilIface],false,[]⟩:=by kernel_rfl
@[go_sem] theorem ti_227:ti 227=some ⟨.st [],0,0,[],false,[("loop.example/hawser/impl.settled",239)]⟩:=by kernel_rfl
@[go_sem] theorem ti_228:ti 228=some ⟨.st [],0,0,[],false,[("loop.example/hawser/impl.settled",240)]⟩:=by kernel_rfl
@[go_sem] theorem ti_229:ti 229=some ⟨.st [],0,0,[],false,[("loop.example/hawser/impl.settled",241)]⟩:=by kernel_rfl
@[go_sem] theorem ti_238:ti 238=some ⟨.sli 214,1,24,[.slice none 0 0],false,[]⟩:=by kernel_rfl
@[go_sem] theorem ti_245:ti 245=some ⟨.sc,1,16,[.nilIface],false,[]⟩:=by kernel_rfl
@[go_sem] theorem ti_248:ti 248=some ⟨.sc,1,16,[.nilIface],false,[]⟩:=by kernel_rfl
@[go_sem] theorem ti_250:ti 250=some ⟨.sc,1,16,[.nilIface],false,[]⟩:=by kernel_rfl
@[go_sem] theorem ti_251:ti 251=some ⟨.sli 66,1,24,[.slice none 0 0],false,[]⟩:=by kernel_rfl
@[go_sem] theorem ti_268:ti 268=some ⟨.pt,1,8,[.pointer none],false,[]⟩:=by kernel_rfl
@[go_sem] theorem ti_270:ti 270=some ⟨.st [(0,9)],1,16,[.string ⟨#[]⟩],false,[]⟩:=by kernel_rfl
theorem tf_1:TFact Tryz.prog 1 ⟨.sc,1,8,[.nilFunc],false,[]⟩:=⟨by kernel_rfl,by kernel_rfl,by kernel_rfl,by kernel_rfl⟩
theorem tf_2:TFact Tryz.prog 2 ⟨.int .i64,1,8,[.int .i64 0],false,[]⟩:=⟨by kernel_rfl,by kernel_rfl,by kernel_rfl,by kernel_rfl⟩
theorem tf_3:TFact Tryz.prog 3 ⟨.int .i64,1,8,[.int .i64 0],false,[]⟩:=⟨by kernel_rfl,by kernel_rfl,by kernel_rfl,by kernel_rfl⟩
theorem tf_4:TFact Tryz.prog 4 ⟨.bl,1,1,[.bool false],false,[]⟩:=⟨by kernel_rfl,by kernel_rfl,by kernel_rfl,by kernel_rfl⟩
theorem tf_5:TFact Tryz.prog 5 ⟨.int .u8,1,1,[.int .u8 0],false,[]⟩:=⟨by kernel_rfl,by kernel_rfl,by kernel_rfl,by kernel_rfl⟩
theorem tf_6:TFact Tryz.prog 6 ⟨.int .u8,1,1,[.int .u8 0],false,[]⟩:=⟨by kernel_rfl,by kernel_rfl,by kernel_rfl,by kernel_rfl⟩
theorem tf_7:TFact Tryz.prog 7 ⟨.st [(0,2),(1,3),(2,4),(3,6)],4,24,[.int .i64 0,.int .i64 0,.bool false,.int .u8 0],false,[]⟩:=⟨by kernel_rfl,by kernel_rfl,by kernel_rfl,by kernel_rfl⟩
theorem tf_8:TFact Tryz.prog 8 ⟨.st [(0,2),(1,3),(2,4),(3,6)],4,24,[.int .i64 0,.int .i64 0,.bool false,.int .u8 0],false,[]⟩:=⟨by kernel_rfl,by kernel_rfl,by kernel_rfl,by kernel_rfl⟩
theorem tf_9:TFact Tryz.prog 9 ⟨.str,1,16,[.string ⟨#[]⟩],false,[]⟩:=⟨by kernel_rfl,by kernel_rfl,by kernel_rfl,by kernel_rfl⟩
theorem tf_11:TFact Tryz.prog 11 ⟨.str,1,16,[.string ⟨#[]⟩],false,[]⟩:=⟨by kernel_rfl,by kernel_rfl,by kernel_rfl,by kernel_rfl⟩
theorem tf_12:TFact Tryz.prog 12 ⟨.int .u64,1,8,[.int .u64 0],false,[]⟩:=⟨by kernel_rfl,by kernel_rfl,by kernel_rfl,by kernel_rfl⟩
theorem tf_13:TFact Tryz.prog 13 ⟨.st [(0,9),(1,12)],2,24,[.string ⟨#[]⟩,.int .u64 0],false,[]⟩:=⟨by kernel_rfl,by kernel_rfl,by kernel_rfl,by kernel_rfl⟩
theorem tf_20:TFact Tryz.prog 20 ⟨.sc,1,16,[.nilIface],false,[]⟩:=⟨by kernel_rfl,by kernel_rfl,by kernel_rfl,by kernel_rfl⟩
theorem tf_22:TFact Tryz.prog 22 ⟨.sli 5,1,24,[.slice none 0 0],false,[]⟩:=⟨by kernel_rfl,by kernel_rfl,by kernel_rfl,by kernel_rfl⟩
theorem tf_27:TFact Tryz.prog 27 ⟨.pt,1,8,[.pointer none],false,[]⟩:=⟨by kernel_rfl,by kernel_rfl,by kernel_rfl,by kernel_rfl⟩
theorem tf_32:TFact Tryz.prog 32 ⟨.pt,1,8,[.pointer none],false,[]⟩:=⟨by kernel_rfl,by kernel_rfl,by kernel_rfl,by kernel_rfl⟩
theorem tf_33:TFact Tryz.prog 33 ⟨.pt,1,8,[.pointer none],false,[]⟩:=⟨by kernel_rfl,by kernel_rfl,by kernel_rfl,by kernel_rfl⟩
theorem tf_35:TFact Tryz.prog 35 ⟨.pt,1,8,[.pointer none],false,[]⟩:=⟨by kernel_rfl,by kernel_rfl,by kernel_rfl,by kernel_rfl⟩
theorem tf_37:TFact Tryz.prog 37 ⟨.st [(0,35),(1,22)],2,32,[.pointer none,.slice none 0 0],false,[]⟩:=⟨by kernel_rfl,by kernel_rfl,by kernel_rfl,by kernel_rfl⟩
theorem tf_39:TFact Tryz.prog 39 ⟨.st [(0,33),(1,37)],3,40,[.pointer none,.pointer none,.slice none 0 0],false,[]⟩:=⟨by kernel_rfl,by kernel_rfl,by kernel_rfl,by kernel_rfl⟩
theorem tf_40:TFact Tryz.prog 40 ⟨.sli 9,1,24,[.slice none 0 0],false,[]⟩:=⟨by kernel_rfl,by kernel_rfl,by kernel_rfl,by kernel_rfl⟩
theorem tf_44:TFact Tryz.prog 44 ⟨.sli 95,1,24,[.slice none 0 0],false,[]⟩:=⟨by kernel_rfl,by kernel_rfl,by kernel_rfl,by kernel_rfl⟩
theorem tf_46:TFact Tryz.prog 46 ⟨.st [(0,44)],1,24,[.slice none 0 0],false,[]⟩:=⟨by kernel_rfl,by kernel_rfl,by kernel_rfl,by kernel_rfl⟩
theorem tf_53:TFact Tryz.prog 53 ⟨.st [(0,22),(1,3)],2,32,[.slice none 0 0,.int .i64 0],false,[]⟩:=⟨by kernel_rfl,by kernel_rfl,by kernel_rfl,by kernel_rfl⟩
theorem tf_56:TFact Tryz.prog 56 ⟨.pt,1,8,[.pointer none],false,[]⟩:=⟨by kernel_rfl,by kernel_rfl,by kernel_rfl,by kernel_rfl⟩
theorem tf_57:TFact Tryz.prog 57 ⟨.arr 2 56,2,16,[.pointer none,.pointer none],false,[]⟩:=⟨by kernel_rfl,by kernel_rfl,by kernel_rfl,by kernel_rfl⟩
theorem tf_59:TFact Tryz.prog 59 ⟨.st [(0,57)],2,16,[.pointer none,.pointer none],false,[]⟩:=⟨by kernel_rfl,by kernel_rfl,by kernel_rfl,by kernel_rfl⟩
theorem tf_63:TFact Tryz.prog 63 ⟨.st [],0,0,[],false,[]⟩:=⟨by kernel_rfl,by kernel_rfl,by kernel_rfl,by kernel_rfl⟩
theorem tf_66:TFact Tryz.prog 66 ⟨.sc,1,16,[.nilIface],false,[]⟩:=⟨by kernel_rfl,by kernel_rfl,by kernel_rfl,by kernel_rfl⟩
theorem tf_74:TFact Tryz.prog 74 ⟨.st [(0,3),(1,3),(2,3),(3,3),(4,3),(5,3),(6,3)],7,56,[.int .i64 0,.int .i64 0,.int .i64 0,.int .i64 0,.int .i64 0,.int .i64 0,.int .i64 0],true,[]⟩:=⟨by kernel_rfl,by kernel_rfl,by kernel_rfl,by kernel_rfl⟩
theorem tf_76:TFact Tryz.prog 76 ⟨.st [(0,3),(1,3),(2,3),(3,3),(4,74)],11,88,[.int .i64 0,.int .i64 0,.int .i64 0,.int .i64 0,.int .i64 0,.int .i64 0,.int .i64 0,.int .i64 0,.int .i64 0,.int .i64 0,.int .i64 0],false,[]⟩:=⟨by kernel_rfl,by kernel_rfl,by kernel_rfl,by kernel_rfl⟩
theorem tf_78:TFact Tryz.prog 78 ⟨.sli 3,1,24,[.slice none 0 0],false,[]⟩:=⟨by kernel_rfl,by kernel_rfl,by kernel_rfl,by kernel_rfl⟩
theorem tf_80:TFact Tryz.prog 80 ⟨.st [(0,78),(1,78),(2,3)],3,56,[.slice none 0 0,.slice none 0 0,.int .i64 0],false,[]⟩:=⟨by kernel_rfl,by kernel_rfl,by kernel_rfl,by kernel_rfl⟩
theorem tf_81:TFact Tryz.prog 81 ⟨.sli 74,1,24,[.slice none 0 0],false,[]⟩:=⟨by kernel_rfl,by kernel_rfl,by kernel_rfl,by kernel_rfl⟩
theorem tf_82:TFact Tryz.prog 82 ⟨.sli 4,1,24,[.slice none 0 0],false,[]⟩:=⟨by kernel_rfl,by kernel_rfl,by kernel_rfl,by kernel_rfl⟩
theorem tf_84:TFact Tryz.prog 84 ⟨.st [(0,3),(1,3),(2,3),(3,81),(4,82),(5,82),(6,78)],7,120,[.int .i64 0,.int .i64 0,.int .i64 0,.slice none 0 0,.slice none 0 0,.slice none 0 0,.slice none 0 0],false,[]⟩:=⟨by kernel_rfl,by kernel_rfl,by kernel_rfl,by kernel_rfl⟩
theorem tf_85:TFact Tryz.prog 85 ⟨.pt,1,8,[.pointer none],false,[]⟩:=⟨by kernel_rfl,by kernel_rfl,by kernel_rfl,by kernel_rfl⟩
theorem tf_87:TFact Tryz.prog 87 ⟨.st [(0,80),(3,3),(4,84),(11,85),(12,3),(13,78)],14,224,[.slice none 0 0,.slice none 0 0,.int .i64 0,.int .i64 0,.int .i64 0,.int .i64 0,.int .i64 0,.slice none 0 0,.slice none 0 0,.slice none 0 0,.slice none 0 0,.pointer none,.int .i64 0,.slice none 0 0],false,[]⟩:=⟨by kernel_rfl,by kernel_rfl,by kernel_rfl,by kernel_rfl⟩
theorem tf_92:TFact Tryz.prog 92 ⟨.pt,1,8,[.pointer none],false,[]⟩:=⟨by kernel_rfl,by kernel_rfl,by kernel_rfl,by kernel_rfl⟩
theorem tf_93:TFact Tryz.prog 93 ⟨.sli 84,1,24,[.slice none 0 0],false,[]⟩:=⟨by kernel_rfl,by kernel_rfl,by kernel_rfl,by kernel_rfl⟩
theorem tf_95:TFact Tryz.prog 95 ⟨.st [(0,3),(1,80),(4,84),(11,93),(12,78)],13,232,[.int .i64 0,.slice none 0 0,.slice none 0 0,.int .i64 0,.int .i64 0,.int .i64 0,.int .i64 0,.slice none 0 0,.slice none 0 0,.slice none 0 0,.slice none 0 0,.slice none 0 0,.slice none 0 0],false,[]⟩:=⟨by kernel_rfl,by kernel_rfl,by kernel_rfl,by kernel_rfl⟩
theorem tf_108:TFact Tryz.prog 108 ⟨.sc,1,8,[.chan none],false,[]⟩:=⟨by kernel_rfl,by kernel_rfl,by kernel_rfl,by kernel_rfl⟩
theorem tf_118:TFact Tryz.prog 118 ⟨.st [(0,84),(7,3)],8,128,[.int .i64 0,.int .i64 0,.int .i64 0,.slice none 0 0,.slice none 0 0,.slice none 0 0,.slice none 0 0,.int .i64 0],false,[]⟩:=⟨by kernel_rfl,by kernel_rfl,by kernel_rfl,by kernel_rfl⟩
theorem tf_133:TFact Tryz.prog 133 ⟨.sc,1,8,[.pointer none],false,[]⟩:=⟨by kernel_rfl,by kernel_rfl,by kernel_rfl,by kernel_rfl⟩
theorem tf_135:TFact Tryz.prog 135 ⟨.arr 5 3,5,40,[.int .i64 0,.int .i64 0,.int .i64 0,.int .i64 0,.int .i64 0],false,[]⟩:=⟨by kernel_rfl,by kernel_rfl,by kernel_rfl,by kernel_rfl⟩
theorem tf_136:TFact Tryz.prog 136 ⟨.sc,1,8,[.chan none],false,[]⟩:=⟨by kernel_rfl,by kernel_rfl,by kernel_rfl,by kernel_rfl⟩
theorem tf_140:TFact Tryz.prog 140 ⟨.pt,1,8,[.pointer none],false,[]⟩:=⟨by kernel_rfl,by kernel_rfl,by kernel_rfl,by kernel_rfl⟩
theorem tf_143:TFact Tryz.prog 143 ⟨.sc,1,8,[.nilFunc],false,[]⟩:=⟨by kernel_rfl,by kernel_rfl,by kernel_rfl,by kernel_rfl⟩
theorem tf_147:TFact Tryz.prog 147 ⟨.mp 3 3,1,8,[.map none],false,[]⟩:=⟨by kernel_rfl,by kernel_rfl,by kernel_rfl,by kernel_rfl⟩
theorem tf_149:TFact Tryz.prog 149 ⟨.st [(0,147),(1,147),(2,3)],3,24,[.map none,.map none,.int .i64 0],false,[]⟩:=⟨by kernel_rfl,by kernel_rfl,by kernel_rfl,by kernel_rfl⟩
theorem tf_167:TFact Tryz.prog 167 ⟨.st [(0,84),(7,85)],8,128,[.int .i64 0,.int .i64 0,.int .i64 0,.slice none 0 0,.slice none 0 0,.slice none 0 0,.slice none 0 0,.pointer none],false,[]⟩:=⟨by kernel_rfl,by kernel_rfl,by kernel_rfl,by kernel_rfl⟩
theorem tf_187:TFact Tryz.prog 187 ⟨.sc,1,16,[.nilIface],false,[]⟩:=⟨by kernel_rfl,by kernel_rfl,by kernel_rfl,by kernel_rfl⟩
theorem tf_211:TFact Tryz.prog 211 ⟨.sc,1,8,[.nilFunc],false,[]⟩:=⟨by kernel_rfl,by kernel_rfl,by kernel_rfl,by kernel_rfl⟩
theorem tf_212:TFact Tryz.prog 212 ⟨.sc,1,8,[.nilFunc],false,[]⟩:=⟨by kernel_rfl,by kernel_rfl,by kernel_rfl,by kernel_rfl⟩
theorem tf_214:TFact Tryz.prog 214 ⟨.st [(0,3),(1,211),(2,212)],3,24,[.int .i64 0,.nilFunc,.nilFunc],false,[]⟩:=⟨by kernel_rfl,by kernel_rfl,by kernel_rfl,by kernel_rfl⟩
theorem tf_217:TFact Tryz.prog 217 ⟨.arr 7 3,7,56,[.int .i64 0,.int .i64 0,.int .i64 0,.int .i64 0,.int .i64 0,.int .i64 0,.int .i64 0],false,[]⟩:=⟨by kernel_rfl,by kernel_rfl,by kernel_rfl,by kernel_rfl⟩
theorem tf_220:TFact Tryz.prog 220 ⟨.sc,1,16,[.nilIface],false,[]⟩:=⟨by kernel_rfl,by kernel_rfl,by kernel_rfl,by kernel_rfl⟩
theorem tf_227:TFact Tryz.prog 227 ⟨.st [],0,0,[],false,[("loop.example/hawser/impl.settled",239)]⟩:=⟨by kernel_rfl,by kernel_rfl,by kernel_rfl,by kernel_rfl⟩
theorem tf_228:TFact Tryz.prog 228 ⟨.st [],0,0,[],false,[("loop.example/hawser/impl.settled",240)]⟩:=⟨by kernel_rfl,by kernel_rfl,by kernel_rfl,by kernel_rfl⟩
theorem tf_229:TFact Tryz.prog 229 ⟨.st [],0,0,[],false,[("loop.example/hawser/impl.settled",241)]⟩:=⟨by kernel_rfl,by kernel_rfl,by kernel_rfl,by kernel_rfl⟩
theorem tf_238:TFact Tryz.prog 238 ⟨.sli 214,1,24,[.slice none 0 0],false,[]⟩:=⟨by kernel_rfl,by kernel_rfl,by kernel_rfl,by kernel_rfl⟩
theorem tf_245:TFact Tryz.prog 245 ⟨.sc,1,16,[.nilIface],false,[]⟩:=⟨by kernel_rfl,by kernel_rfl,by kernel_rfl,by kernel_rfl⟩
theorem tf_248:TFact Tryz.prog 248 ⟨.sc,1,16,[.nilIface],false,[]⟩:=⟨by kernel_rfl,by kernel_rfl,by kernel_rfl,by kernel_rfl⟩
theorem tf_250:TFact Tryz.prog 250 ⟨.sc,1,16,[.nilIface],false,[]⟩:=⟨by kernel_rfl,by kernel_rfl,by kernel_rfl,by kernel_rfl⟩
theorem tf_251:TFact Tryz.prog 251 ⟨.sli 66,1,24,[.slice none 0 0],false,[]⟩:=⟨by kernel_rfl,by kernel_rfl,by kernel_rfl,by kernel_rfl⟩
theorem tf_268:TFact Tryz.prog 268 ⟨.pt,1,8,[.pointer none],false,[]⟩:=⟨by kernel_rfl,by kernel_rfl,by kernel_rfl,by kernel_rfl⟩
theorem tf_270:TFact Tryz.prog 270 ⟨.st [(0,9)],1,16,[.string ⟨#[]⟩],false,[]⟩:=⟨by kernel_rfl,by kernel_rfl,by kernel_rfl,by kernel_rfl⟩
def AllT (P:Program):List (Nat × TI)→Prop
 | []=>True
 | (t,x) ::r=>TFact P t x∧AllT P r
theorem allT_mem {P:Program}:∀ {l:List (Nat × TI)},AllT P l→∀ t x,(t,x) ∈ l→TFact P t x
 | [],_,_,_,h=>by cases h
 | (u,y) ::r,h,t,x,hm=>by
   rcases List.mem_cons.1 hm with e|e
   · injection e with e1 e2;subst e1;subst e2;exact h.1
   · exact allT_mem h.2 t x e
theorem allT:AllT Tryz.prog tis:=⟨tf_1,tf_2,tf_3,tf_4,tf_5,tf_6,tf_7,tf_8,tf_9,tf_11,tf_12,tf_13,tf_20,tf_22,tf_27,tf_32,tf_33,tf_35,tf_37,tf_39,tf_40,tf_44,tf_46,tf_53,tf_56,tf_57,tf_59,tf_63,tf_66,tf_74,tf_76,tf_78,tf_80,tf_81,tf_82,tf_84,tf_85,tf_87,tf_92,tf_93,tf_95,tf_108,tf_118,tf_133,tf_135,tf_136,tf_140,tf_143,tf_147,tf_149,tf_167,tf_187,tf_211,tf_212,tf_214,tf_217,tf_220,tf_227,tf_228,tf_229,tf_238,tf_245,tf_248,tf_250,tf_251,tf_268,tf_270,trivial⟩
theorem tok:TOk Tryz.prog ti:=fun t x h=>allT_mem allT t x (look_mem h)
end Go.Hw
namespace Go.Hw
section
variable {ti:Nat→Option TI} {s:St}
theorem old_aop_move (x:Operand):aop ti s (.move x)=match evO s x with|some v=>some (True,v,s.h,s.nx)|none=>none:=rfl
theorem old_aop_assign (x:Operand):aop ti s (.assign x)=match evO s x with|some v=>some (True,v,s.h,s.nx)|none=>none:=rfl
theorem old_aop_pick (c a b:Operand):aop ti s (.pick c a b)=match evO s c,evO s a,evO s b with
   | some (.o (.c (.t (.v (.bool q))))),some u,some v=>some (True,if q=true then u else v,s.h,s.nx)
   | _,_,_=>none:=rfl
theorem old_aop_alloc (t:TypeId):aop ti s (.alloc t)=match ti t with
   | some x=>match zcells x with
     | some l=>some (True,.o (.c (.ptr s.nx 0 0 0)),(s.nx,.box l) ::s.h,s.nx+1)
     | none=>none
   | none=>none:=rfl
theorem old_aop_box (t:TypeId) (x:Operand):aop ti s (.box t x)=match evO s x with
   | some (.o v)=>some (True,.o (.c (.ptr s.nx 0 0 0)),(s.nx,.box v.cells) ::s.h,s.nx+1)
   | _=>none:=rfl
theorem old_aop_build (t:TypeId) (parts:Array (Nat × Operand)):aop ti s (.build t parts)=match partsA s parts.toList with
   | some l=>match buildA ti t l with
     | some v=>some (True,.o v,s.h,s.nx)
     | none=>none
   | none=>none:=rfl
theorem old_aop_buildSlice (t:TypeId) (n:Nat) (parts:Array (Nat × Operand)):aop ti s (.buildSlice t n parts)=match partsA s parts.toList with
   | some l=>match litA ti t n l with
     | some (wd,r)=>some (True,.o (.c (.sl s.nx wd 0 n)),(s.nx,litObj wd n r) ::s.h,s.nx+1)
     | none=>none
   | none=>none:=rfl
theorem old_aop_load (t:TypeId) (x:Operand):aop ti s (.load t x)=match ti t,evO s x with
   | some tx,some (.o a)=>match loadA tx s.h a with
     | some (p,v)=>some (p,.o v,s.h,s.nx)
     | none=>none
   | _,_=>none:=rfl
theorem old_aop_store (t:TypeId) (a x:Operand):aop ti s (.store t a x)=match ti t,evO s a,evO s x with
   | some tx,some (.o u),some (.o v)=>match storeA tx s.h v u with
     | some (p,h)=>some (p,.tup [],h,s.nx)
     | none=>none
   | _,_,_=>none:=rfl
theorem old_aop_nilCheck (x:Operand):aop ti s (.nilCheck x)=match evO s x with
   | some (.o v)=>if nilOk v=true then some (True,.o v,s.h,s.nx) else none
   | _=>none:=rfl
def xorOp:BinOp→Bool
 | .xor=>true
 | _=>false
theorem old_aop_binOp (op:BinOp) (t:TypeId) (x y:Operand) (yt:TypeId) (hop:xorOp op=false):aop ti s (.binOp op t x y yt)=match evO s x,evO s y with
   | some (.o a),some (.o b)=>match cmpA ti op t a b with
     | some (p,r)=>some (p,scal r,s.h,s.nx)
     | none=>none
   | _,_=>none:=by cases op<;>first|rfl|cases hop
theorem old_aop_not (t:TypeId) (x:Operand):aop ti s (.unOp .not t x)=match evO s x with
   | some (.o (.c (.t (.v (.bool q)))))=>some (True,scal (.bool (!q)),s.h,s.nx)
   | _=>none:=rfl
theorem old_aop_neg (t:TypeId) (x:Operand):aop ti s (.unOp .neg t x)=match evO s x with
   | some (.o (.c (.t (.v (.int k n)))))=>some (Fits k (-n),scal (.int k (-n)),s.h,s.nx)
   | _=>none:=rfl
theorem old_aop_fieldAddr (t:TypeId) (x:Operand) (f:Nat):aop ti s (.fieldAddr t x f)=match evO s x with
   | some (.o a)=>match fieldA ti t f a with
     | some r=>some (True,.o r,s.h,s.nx)
     | none=>none
   | _=>none:=rfl
theorem old_aop_field (t:TypeId) (x:Operand) (f:Nat):aop ti s (.field t x f)=match evO s x with
   | some (.o a)=>match fldA ti t f a with
     | some r=>some (True,.o r,s.h,s.nx)
     | none=>none
   | _=>none:=rfl
theorem old_aop_indexAddr (t:TypeId) (x i:Operand):aop ti s (.indexAddr t x i)=match evO s x,evO s i with
   | some (.o a),some (.o b)=>match indexA ti t a b with
     | some (p,r)=>some (p,.o r,s.h,s.nx)
     | none=>none
   | _,_=>none:=rfl
theorem old_aop_slice (t:TypeId) (x:Operand) (lo hi:Option Operand):aop ti s (.slice t x lo hi none)=match evO s x with
   | some (.o a)=>match sliceA ti t s a lo hi with
     | some (p,r)=>some (p,.o r,s.h,s.nx)
     | none=>none
   | _=>none:=rfl
theorem old_aop_makeSlice (t:TypeId) (l c:Operand):aop ti s (.makeSlice t l c)=match evO s l,evO s c with
   | some (.o a),some (.o b)=>match makeA ti t a b with
     | some (p,wd,n,f)=>some (p,.o (.c (.sl s.nx wd 0 n)),(s.nx,.row wd n f) ::s.h,s.nx+1)
     | none=>none
   | _,_=>none:=rfl
theorem old_aop_extract (x:Operand) (i:Nat):aop ti s (.extract x i)=match evO s x with
   | some (.tup l)=>match l[i]? with
     | some v=>some (True,.o v,s.h,s.nx)
     | none=>none
   | _=>none:=rfl
theorem old_aop_len (x:Operand) (t:TypeId):aop ti s (.call ⟨.builtin .len,⟨[x]⟩,⟨[t]⟩⟩)=match evO s x with
   | some (.o a)=>match lenA ti t a with
     | some r=>some (True,scal r,s.h,s.nx)
     | none=>none
   | _=>none:=rfl
theorem old_aop_append (x y:Operand) (t xt:TypeId):aop ti s (.call ⟨.builtin .append,⟨[x,y]⟩,⟨[t,xt]⟩⟩)=match evO s x,evO s y with
   | some (.o a),some (.o b)=>match appendA ti s.h t xt a b with
     | some (p,wd,n,f,h)=>some (p,.o (.c (.sl s.nx wd 0 n)),(s.nx,.row wd n f) ::h,s.nx+1)
     | none=>none
   | _,_=>none:=rfl
theorem old_aop_copy (x y:Operand) (t xt:TypeId):aop ti s (.call ⟨.builtin .copy,⟨[x,y]⟩,⟨[t,xt]⟩⟩)=match evO s x,evO s y with
   | some (.o a),some (.o b)=>match copyA ti s.h t a b with
     | some (p,r,h)=>some (p,scal r,h,s.nx)
     | none=>none
   | _,_=>none:=rfl
theorem old_callA_call (x:Operand) (args:List Operand) (tys:Array TypeId):callA ti s (.call ⟨.value x,⟨args⟩,tys⟩)=match evO s x,argsA s args with
   | some (.o (.c (.t (.v (.func (.func f) ⟨[]⟩ ⟨[]⟩))))),some l=>some (f,l)
   | some (.o (.c (.fp q f h wd i j))),some l=>some (f,bif q then .c (.ptr h wd i j) ::l else l++[.c (.ptr h wd i j)])
   | _,_=>none:=rfl
end
def ob {α β:Type} (x:Option α) (f:α→Option β):Option β:=match x with
 | some a=>f a
 | none=>none
@[go_sem] theorem ob_some {α β:Type} {a:α} {f:α→Option β}:ob (some a) f=f a:=rfl
@[go_sem] theorem ob_none {α β:Type} {f:α→Option β}:ob none f=none:=rfl
def obf {α:Type} (b:Bool) (x:Option α):Option α:=bif b then x else none
@[go_sem] theorem obf_true {α:Type} {x:Option α}:obf true x=x:=rfl
@[go_sem] theorem obf_false {α:Type} {x:Option α}:obf false x=none:=rfl
def one:AV→Option A1
 | .o a=>some a
 | .tup _=>none
def ev1 (s:St) (x:Operand):Option A1:=ob (evO s x) one
def bl1:A1→Option Bool
 | .c (.t (.v (.bool q)))=>some q
 | _=>none
def in1:A1→Option (IntKind × Int)
 | .c (.t (.v (.int k n)))=>some (k,n)
 | _=>none
attribute [go_sem] one ev1 bl1 in1
section
variable {ti:Nat→Option TI} {s:St}
@[go_sem] theorem aop_move (x:Operand):aop ti s (.move x)=ob (evO s x) fun v=>some (True,v,s.h,s.nx):=by
 rw [old_aop_move]
 cases evO s x<;>rfl
@[go_sem] theorem aop_assign (x:Operand):aop ti s (.assign x)=ob (evO s x) fun v=>some (True,v,s.h,s.nx):=by
 rw [old_aop_assign]
 cases evO s x<;>rfl
@[go_sem] theorem aop_pick (c a b:Operand):aop ti s (.pick c a b)=ob (ev1 s c) fun q=>ob (bl1 q) fun q=>ob (evO s a) fun u=>ob (evO s b) fun v=>some (True,if q=true then u else v,s.h,s.nx):=by
 rw [old_aop_pick];unfold ev1
 rcases evO s c with _|((_|_)|_)<;>(try rfl)
 rename_i q
 rcases q with (x|_|_)|_|_|_|_|_|_<;>(try rfl)
 cases x<;>(try rfl)
 rcases evO s a with _|_<;>(try rfl)
 rcases evO s b with _|_<;>rfl
@[go_sem] theorem aop_alloc (t:TypeId):aop ti s (.alloc t)=ob (ti t) fun x=>ob (zcells x) fun l=>some (True,.o (.c (.ptr s.nx 0 0 0)),(s.nx,.box l) ::s.h,s.nx+1):=by
 rw [old_aop_alloc]
 rcases ti t with _|x<;>(try rfl)
 dsimp only [ob]
 rcases zcells x with _|_<;>rfl
@[go_sem] theorem aop_box (t:TypeId) (x:Operand):aop ti s (.box t x)=ob (ev1 s x) fun v=>some (True,.o (.c (.ptr s.nx 0 0 0)),(s.nx,.box v.cells) ::s.h,s.nx+1):=by
 rw [old_aop_box];unfold ev1
 rcases evO s x with _|(_|_)<;>rfl
@[go_sem] theorem aop_build (t:TypeId) (parts:Array (Nat × Operand)):aop ti s (.build t parts)=ob (partsA s parts.toList) fun l=>ob (buildA ti t l) fun v=>some (True,.o v,s.h,s.nx):=by
 rw [old_aop_build]
 rcases partsA s parts.toList with _|l<;>(try rfl)
 dsimp only [ob]
 rcases buildA ti t l with _|_<;>rfl
@[go_sem] theorem aop_buildSlice (t:TypeId) (n:Nat) (parts:Array (Nat × Operand)):aop ti s (.buildSlice t n parts)=ob (partsA s parts.toList) fun l=>ob (litA ti t n l) fun r=>some (True,.o (.c (.sl s.nx r.1 0 n)),(s.nx,litObj r.1 n r.2) ::s.h,s.nx+1):=by
 rw [old_aop_buildSlice]
 rcases partsA s parts.toList with _|l<;>(try rfl)
 dsimp only [ob]
 rcases litA ti t n l with _|⟨_,_⟩<;>rfl
@[go_sem] theorem aop_load (t:TypeId) (x:Operand):aop ti s (.load t x)=ob (ti t) fun tx=>ob (ev1 s x) fun a=>ob (loadA tx s.h a) fun r=>some (r.1,.o r.2,s.h,s.nx):=by
 rw [old_aop_load];unfold ev1
 rcases ti t with _|tx<;>(try rfl)
 rcases evO s x with _|(a|_)<;>(try rfl)
 dsimp only [ob,one]
 rcases loadA tx s.h a with _|⟨_,_⟩<;>rfl
@[go_sem] theorem aop_store (t:TypeId) (a x:Operand):aop ti s (.store t a x)=ob (ti t) fun tx=>ob (ev1 s a) fun u=>ob (ev1 s x) fun v=>ob (storeA tx s.h v u) fun r=>some (r.1,.tup [],r.2,s.nx):=by
 rw [old_aop_store];unfold ev1
 rcases ti t with _|tx<;>(try rfl)
 rcases evO s a with _|(u|_)<;>(try rfl)
 rcases evO s x with _|(v|_)<;>(try rfl)
 dsimp only [ob,one]
 rcases storeA tx s.h v u with _|⟨_,_⟩<;>rfl
@[go_sem] theorem aop_nilCheck (x:Operand):aop ti s (.nilCheck x)=ob (ev1 s x) fun v=>obf (nilOk v) (some (True,.o v,s.h,s.nx)):=by
 rw [old_aop_nilCheck];unfold ev1
 rcases evO s x with _|(v|_)<;>(try rfl)
 dsimp only [ob,one,obf]
 cases nilOk v<;>rfl
theorem aop_binOp (op:BinOp) (t:TypeId) (x y:Operand) (yt:TypeId) (hop:xorOp op=false):aop ti s (.binOp op t x y yt)=ob (ev1 s x) fun a=>ob (ev1 s y) fun b=>ob (cmpA ti op t a b) fun r=>some (r.1,scal r.2,s.h,s.nx):=by
 rw [old_aop_binOp _ _ _ _ _ hop];unfold ev1
 rcases evO s x with _|(a|_)<;>(try rfl)
 rcases evO s y with _|(b|_)<;>(try rfl)
 dsimp only [ob,one]
 rcases cmpA ti op t a b with _|⟨_,_⟩<;>rfl
@[go_sem] theorem aop_add (t:TypeId) (x y:Operand) (yt:TypeId):aop ti s (.binOp .add t x y yt)=ob (ev1 s x) fun a=>ob (ev1 s y) fun b=>ob (cmpA ti .add t a b) fun r=>some (r.1,scal r.2,s.h,s.nx):=aop_binOp .add t x y yt rfl
@[go_sem] theorem aop_sub (t:TypeId) (x y:Operand) (yt:TypeId):aop ti s (.binOp .sub t x y yt)=ob (ev1 s x) fun a=>ob (ev1 s y) fun b=>ob (cmpA ti .sub t a b) fun r=>some (r.1,scal r.2,s.h,s.nx):=aop_binOp .sub t x y yt rfl
@[go_sem] theorem aop_mul (t:TypeId) (x y:Operand) (yt:TypeId):aop ti s (.binOp .mul t x y yt)=ob (ev1 s x) fun a=>ob (ev1 s y) fun b=>ob (cmpA ti .mul t a b) fun r=>some (r.1,scal r.2,s.h,s.nx):=aop_binOp .mul t x y yt rfl
@[go_sem] theorem aop_quo (t:TypeId) (x y:Operand) (yt:TypeId):aop ti s (.binOp .quo t x y yt)=ob (ev1 s x) fun a=>ob (ev1 s y) fun b=>ob (cmpA ti .quo t a b) fun r=>some (r.1,scal r.2,s.h,s.nx):=aop_binOp .quo t x y yt rfl
@[go_sem] theorem aop_rem (t:TypeId) (x y:Operand) (yt:TypeId):aop ti s (.binOp .rem t x y yt)=ob (ev1 s x) fun a=>ob (ev1 s y) fun b=>ob (cmpA ti .rem t a b) fun r=>some (r.1,scal r.2,s.h,s.nx):=aop_binOp .rem t x y yt rfl
@[go_sem] theorem aop_eql (t:TypeId) (x y:Operand) (yt:TypeId):aop ti s (.binOp .eql t x y yt)=ob (ev1 s x) fun a=>ob (ev1 s y) fun b=>ob (cmpA ti .eql t a b) fun r=>some (r.1,scal r.2,s.h,s.nx):=aop_binOp .eql t x y yt rfl
@[go_sem] theorem aop_neq (t:TypeId) (x y:Operand) (yt:TypeId):aop ti s (.binOp .neq t x y yt)=ob (ev1 s x) fun a=>ob (ev1 s y) fun b=>ob (cmpA ti .neq t a b) fun r=>some (r.1,scal r.2,s.h,s.nx):=aop_binOp .neq t x y yt rfl
@[go_sem] theorem aop_lss (t:TypeId) (x y:Operand) (yt:TypeId):aop ti s (.binOp .lss t x y yt)=ob (ev1 s x) fun a=>ob (ev1 s y) fun b=>ob (cmpA ti .lss t a b) fun r=>some (r.1,scal r.2,s.h,s.nx):=aop_binOp .lss t x y yt rfl
@[go_sem] theorem aop_leq (t:TypeId) (x y:Operand) (yt:TypeId):aop ti s (.binOp .leq t x y yt)=ob (ev1 s x) fun a=>ob (ev1 s y) fun b=>ob (cmpA ti .leq t a b) fun r=>some (r.1,scal r.2,s.h,s.nx):=aop_binOp .leq t x y yt rfl
@[go_sem] theorem aop_gtr (t:TypeId) (x y:Operand) (yt:TypeId):aop ti s (.binOp .gtr t x y yt)=ob (ev1 s x) fun a=>ob (ev1 s y) fun b=>ob (cmpA ti .gtr t a b) fun r=>some (r.1,scal r.2,s.h,s.nx):=aop_binOp .gtr t x y yt rfl
@[go_sem] theorem aop_geq (t:TypeId) (x y:Operand) (yt:TypeId):aop ti s (.binOp .geq t x y yt)=ob (ev1 s x) fun a=>ob (ev1 s y) fun b=>ob (cmpA ti .geq t a b) fun r=>some (r.1,scal r.2,s.h,s.nx):=aop_binOp .geq t x y yt rfl
@[go_sem] theorem aop_and (t:TypeId) (x y:Operand) (yt:TypeId):aop ti s (.binOp .and t x y yt)=ob (ev1 s x) fun a=>ob (ev1 s y) fun b=>ob (cmpA ti .and t a b) fun r=>some (r.1,scal r.2,s.h,s.nx):=aop_binOp .and t x y yt rfl
@[go_sem] theorem aop_or (t:TypeId) (x y:Operand) (yt:TypeId):aop ti s (.binOp .or t x y yt)=ob (ev1 s x) fun a=>ob (ev1 s y) fun b=>ob (cmpA ti .or t a b) fun r=>some (r.1,scal r.2,s.h,s.nx):=aop_binOp .or t x y yt rfl
@[go_sem] theorem aop_shl (t:TypeId) (x y:Operand) (yt:TypeId):aop ti s (.binOp .shl t x y yt)=ob (ev1 s x) fun a=>ob (ev1 s y) fun b=>ob (cmpA ti .shl t a b) fun r=>some (r.1,scal r.2,s.h,s.nx):=aop_binOp .shl t x y yt rfl
@[go_sem] theorem aop_shr (t:TypeId) (x y:Operand) (yt:TypeId):aop ti s (.binOp .shr t x y yt)=ob (ev1 s x) fun a=>ob (ev1 s y) fun b=>ob (cmpA ti .shr t a b) fun r=>some (r.1,scal r.2,s.h,s.nx):=aop_binOp .shr t x y yt rfl
@[go_sem] theorem aop_andNot (t:TypeId) (x y:Operand) (yt:TypeId):aop ti s (.binOp .andNot t x y yt)=ob (ev1 s x) fun a=>ob (ev1 s y) fun b=>ob (cmpA ti .andNot t a b) fun r=>some (r.1,scal r.2,s.h,s.nx):=aop_binOp .andNot t x y yt rfl
@[go_sem] theorem aop_not (t:TypeId) (x:Operand):aop ti s (.unOp .not t x)=ob (ev1 s x) fun q=>ob (bl1 q) fun q=>some (True,scal (.bool (!q)),s.h,s.nx):=by
 rw [old_aop_not];unfold ev1
 rcases evO s x with _|((_|_)|_)<;>(try rfl)
 rename_i q
 rcases q with (x|_|_)|_|_|_|_|_|_<;>(try rfl)
 cases x<;>rfl
@[go_sem] theorem aop_neg (t:TypeId) (x:Operand):aop ti s (.unOp .neg t x)=ob (ev1 s x) fun q=>ob (in1 q) fun q=>some (Fits q.1 (-q.2),scal (.int q.1 (-q.2)),s.h,s.nx):=by
 rw [old_aop_neg];unfold ev1
 rcases evO s x with _|((_|_)|_)<;>(try rfl)
 rename_i q
 rcases q with (x|_|_)|_|_|_|_|_|_<;>(try rfl)
 cases x<;>rfl
def kint:TK→Option IntKind
 | .int k=>some k
 | _=>none
def row1:AObj→Option (Nat × (Nat→Nat→Cell))
 | .row 1 m f=>some (m,f)
 | _=>none
def by1:Cell→Option Int
 | .t (.v (.int .u8 n))=>some n
 | _=>none
def ku8:TK→Option Unit
 | .int .u8=>some ()
 | _=>none
def cnv1 (ti:Nat→Option TI) (s:St):TK→TK→A1→Option (Prop × A1)
 | .int _,.int k,.c (.t (.v (.int _ n)))=>some (Fits k n,.c (.t (.v (.int k n))))
 | .sli e,.str,.c (.sl h 1 o 1)=>ob (ti e) fun te=>ob (look h s.h) fun r=>ob (row1 r) fun r=>ob (ku8 te.k) fun _=>ob (by1 (r.2 o 0)) fun n=>some (o < r.1,.c (.t (.v (.string ⟨#[UInt8.ofNat n.toNat]⟩))))
 | _,_,_=>none
attribute [go_sem] row1 by1 ku8 cnv1
theorem aopB_cnv (src dst:TypeId) (x:Operand):aopB ti s (.convert src dst x)=match ti src,ti dst,evO s x with
   | some ta,some tb,some (.o q)=>match ta.k,tb.k,q with
     | .sli e,.str,.c (.sl h 1 o 1)=>match ti e,look h s.h with
       | some te,some (.row 1 m f)=>match te.k,f o 0 with
         | .int .u8,.t (.v (.int .u8 n))=>some (o < m,.o (.c (.t (.v (.string ⟨#[UInt8.ofNat n.toNat]⟩)))),s.h,s.nx)
         | _,_=>none
       | _,_=>none
     | _,_,_=>none
   | _,_,_=>none:=rfl
theorem aopA_cnv (src dst:TypeId) (x:Operand):aopA ti s (.convert src dst x)=match ti src,ti dst,evO s x with
   | some a,some b,some (.o (.c (.t (.v (.int _ n)))))=>match a.k,b.k with
     | .int _,.int k=>some (Fits k n,scal (.int k n),s.h,s.nx)
     | _,_=>none
   | _,_,_=>none:=rfl
@[go_sem] theorem aop_convert (src dst:TypeId) (x:Operand):aop ti s (.convert src dst x)=ob (ti src) fun a=>ob (ti dst) fun b=>ob (ev1 s x) fun q=>ob (cnv1 ti s a.k b.k q) fun r=>some (r.1,.o r.2,s.h,s.nx):=by
 unfold aop
 rw [aopB_cnv,aopA_cnv];unfold ev1
 rcases ti src with _|⟨a,_,_,_⟩<;>(try rfl)
 rcases ti dst with _|⟨b,_,_,_⟩<;>(try rfl)
 rcases evO s x with _|((q|_)|_)<;>(try rfl)
 · cases q with
   | t x =>
     cases x with
     | v v=>cases v<;>cases a<;>cases b<;>rfl
     | sl _ _ _=>cases a<;>cases b<;>rfl
     | ptr _ _=>cases a<;>cases b<;>rfl
   | ptr _ _ _ _=>cases a<;>cases b<;>rfl
   | tp _ _ _=>cases a<;>cases b<;>rfl
   | mp _=>cases a<;>cases b<;>rfl
   | ch _=>cases a<;>cases b<;>rfl
   | fp _ _ _ _ _ _=>cases a<;>cases b<;>rfl
   | sl h wd o n =>
     cases a<;>cases b<;>(try rfl)
     rename_i e
     match wd,n with
     | 0,_=>rfl
     | 1,0=>rfl
     | 1,1 =>
       show (match (match ti e,look h s.h with|some te,some (.row 1 m f)=>(match te.k,f o 0 with|.int .u8,.t (.v (.int .u8 n))=>some (o < m,AV.o (.c (.t (.v (.string ⟨#[UInt8.ofNat n.toNat]⟩)))),s.h,s.nx)|_,_=>none)|_,_=>none) with|some r=>some r|none=>none)=ob (ob (ti e) fun te=>ob (look h s.h) fun r=>ob (row1 r) fun r=>ob (ku8 te.k) fun _=>ob (by1 (r.2 o 0)) fun n=>some (o < r.1,A1.c (.t (.v (.string ⟨#[UInt8.ofNat n.toNat]⟩))))) fun r=>some (r.1,AV.o r.2,s.h,s.nx)
       generalize ti e=q1
       generalize look h s.h=q2
       rcases q1 with _|te
       · rcases q2 with _|(_|_|_|_)<;>rfl
       rcases q2 with _|(_|⟨wd,m,f⟩|_|_|_)
       · rfl
       · rfl
       rotate_left
       · rfl
       · rfl
       · rfl
       match wd with
       | 0=>rfl
       | 1 =>
         obtain ⟨k,_,_,_,_,_⟩:=te
         show (match (match k,f o 0 with|.int .u8,.t (.v (.int .u8 n))=>some (o < m,AV.o (.c (.t (.v (.string ⟨#[UInt8.ofNat n.toNat]⟩)))),s.h,s.nx)|_,_=>none) with|some r=>some r|none=>none)=ob (ob (ku8 k) fun _=>ob (by1 (f o 0)) fun n=>some (o < m,A1.c (.t (.v (.string ⟨#[UInt8.ofNat n.toNat]⟩))))) fun r=>some (r.1,AV.o r.2,s.h,s.nx)
         generalize f o 0=z
         rcases z with (v|_|_)|_|_|_|_|_|_
         rotate_left
         iterate 8 (cases k<;>(try rfl)<;>(rename_i kk;cases kk<;>rfl))
         cases v<;>cases k<;>(try rfl)<;>(rename_i k1 _ k2;cases k1<;>cases k2<;>rfl)
       | wd+2=>rfl
     | 1,n+2=>rfl
     | wd+2,_=>rfl
 · cases a<;>cases b<;>rfl
@[go_sem] theorem aop_fieldAddr (t:TypeId) (x:Operand) (f:Nat):aop ti s (.fieldAddr t x f)=ob (ev1 s x) fun a=>ob (fieldA ti t f a) fun r=>some (True,.o r,s.h,s.nx):=by
 rw [old_aop_fieldAddr];unfold ev1
 rcases evO s x with _|(a|_)<;>(try rfl)
 dsimp only [ob,one]
 rcases fieldA ti t f a with _|_<;>rfl
@[go_sem] theorem aop_field (t:TypeId) (x:Operand) (f:Nat):aop ti s (.field t x f)=ob (ev1 s x) fun a=>ob (fldA ti t f a) fun r=>some (True,.o r,s.h,s.nx):=by
 rw [old_aop_field];unfold ev1
 rcases evO s x with _|(a|_)<;>(try rfl)
 dsimp only [ob,one]
 rcases fldA ti t f a with _|_<;>rfl
@[go_sem] theorem aop_indexAddr (t:TypeId) (x i:Operand):aop ti s (.indexAddr t x i)=ob (ev1 s x) fun a=>ob (ev1 s i) fun b=>ob (indexA ti t a b) fun r=>some (r.1,.o r.2,s.h,s.nx):=by
 rw [old_aop_indexAddr];unfold ev1
 rcases evO s x with _|(a|_)<;>(try rfl)
 rcases evO s i with _|(b|_)<;>(try rfl)
 dsimp only [ob,one]
 rcases indexA ti t a b with _|⟨_,_⟩<;>rfl
@[go_sem] theorem aop_slice (t:TypeId) (x:Operand) (lo hi:Option Operand):aop ti s (.slice t x lo hi none)=ob (ev1 s x) fun a=>ob (sliceA ti t s a lo hi) fun r=>some (r.1,.o r.2,s.h,s.nx):=by
 rw [old_aop_slice];unfold ev1
 rcases evO s x with _|(a|_)<;>(try rfl)
 dsimp only [ob,one]
 rcases sliceA ti t s a lo hi with _|⟨_,_⟩<;>rfl
@[go_sem] theorem aop_makeSlice (t:TypeId) (l c:Operand):aop ti s (.makeSlice t l c)=ob (ev1 s l) fun a=>ob (ev1 s c) fun b=>ob (makeA ti t a b) fun r=>some (r.1,.o (.c (.sl s.nx r.2.1 0 r.2.2.1)),(s.nx,.row r.2.1 r.2.2.1 r.2.2.2) ::s.h,s.nx+1):=by
 rw [old_aop_makeSlice];unfold ev1
 rcases evO s l with _|(a|_)<;>(try rfl)
 rcases evO s c with _|(b|_)<;>(try rfl)
 dsimp only [ob,one]
 rcases makeA ti t a b with _|⟨_,_,_,_⟩<;>rfl
def tu1:AV→Option (List A1)
 | .tup l=>some l
 | _=>none
@[go_sem] theorem aop_extract (x:Operand) (i:Nat):aop ti s (.extract x i)=ob (evO s x) fun v=>ob (tu1 v) fun l=>ob l[i]? fun v=>some (True,.o v,s.h,s.nx):=by
 rw [old_aop_extract]
 rcases evO s x with _|(_|l)<;>(try rfl)
 dsimp only [ob,tu1]
 rcases l[i]? with _|_<;>rfl
@[go_sem] theorem aop_len (x:Operand) (t:TypeId):aop ti s (.call ⟨.builtin .len,⟨[x]⟩,⟨[t]⟩⟩)=ob (ev1 s x) fun a=>ob (lenA ti t a) fun r=>some (True,scal r,s.h,s.nx):=by
 rw [old_aop_len];unfold ev1
 rcases evO s x with _|(a|_)<;>(try rfl)
 dsimp only [ob,one]
 rcases lenA ti t a with _|_<;>rfl
@[go_sem] theorem aop_append (x y:Operand) (t xt:TypeId):aop ti s (.call ⟨.builtin .append,⟨[x,y]⟩,⟨[t,xt]⟩⟩)=ob (ev1 s x) fun a=>ob (ev1 s y) fun b=>ob (appendA ti s.h t xt a b) fun r=>some (r.1,.o (.c (.sl s.nx r.2.1 0 r.2.2.1)),(s.nx,.row r.2.1 r.2.2.1 r.2.2.2.1) ::r.2.2.2.2,s.nx+1):=by
 rw [old_aop_append];unfold ev1
 rcases evO s x with _|(a|_)<;>(try rfl)
 rcases evO s y with _|(b|_)<;>(try rfl)
 dsimp only [ob,one]
 rcases appendA ti s.h t xt a b with _|⟨_,_,_,_,_⟩<;>rfl
@[go_sem] theorem aop_copy (x y:Operand) (t xt:TypeId):aop ti s (.call ⟨.builtin .copy,⟨[x,y]⟩,⟨[t,xt]⟩⟩)=ob (ev1 s x) fun a=>ob (ev1 s y) fun b=>ob (copyA ti s.h t a b) fun r=>some (r.1,scal r.2.1,r.2.2,s.nx):=by
 rw [old_aop_copy];unfold ev1
 rcases evO s x with _|(a|_)<;>(try rfl)
 rcases evO s y with _|(b|_)<;>(try rfl)
 dsimp only [ob,one]
 rcases copyA ti s.h t a b with _|⟨_,_,_⟩<;>rfl
attribute [go_sem] kint tu1
def fn1:A1→Option (FuncId × List A1 × List A1)
 | .c (.t (.v (.func (.func f) ⟨[]⟩ ⟨[]⟩)))=>some (f,[],[])
 | .c (.fp false f h wd i j)=>some (f,[],[.c (.ptr h wd i j)])
 | .c (.fp true f h wd i j)=>some (f,[.c (.ptr h wd i j)],[])
 | _=>none
@[go_sem] theorem callA_call (x:Operand) (args:List Operand) (tys:Array TypeId):callA ti s (.call ⟨.value x,⟨args⟩,tys⟩)=ob (ev1 s x) fun a=>ob (fn1 a) fun f=>ob (argsA s args) fun l=>some (f.1,f.2.1++(l++f.2.2)):=by
 rw [old_callA_call];unfold ev1
 rcases evO s x with _|((q|_)|_)<;>(try rfl)
 rcases q with (v|_|_)|_|_|_|_|_|_<;>(try rfl)
 · cases v<;>(try rfl)
   rename_i fn fi ca
   rcases fi with ⟨_|_⟩<;>rcases ca with ⟨_|_⟩<;>cases fn<;>(try rfl)
   dsimp only [ob,one,fn1]
   rcases argsA s args with _|l<;>(try rfl)
   simp
 · rename_i q _ _ _ _ _
   cases q<;>dsimp only [ob,one,fn1]<;>rcases argsA s args with _|l<;>(try rfl)
   simp
attribute [go_sem] fn1
def pt1:A1→Option (Nat × Nat × Nat × Nat)
 | .c (.ptr h wd i j)=>some (h,wd,i,j)
 | _=>none
attribute [go_sem] pt1
theorem aopA_mf (f:Fn) (x y:Array Operand):aopA ti s (.makeFunc f x y)=none:=rfl
@[go_sem] theorem aop_bound (f:FuncId) (x:Operand):aop ti s (.makeFunc (.func f) ⟨[x]⟩ ⟨[]⟩)=ob (ev1 s x) fun a=>ob (pt1 a) fun q=>some (True,.o (.c (.fp true f q.1 q.2.1 q.2.2.1 q.2.2.2)),s.h,s.nx):=by
 unfold aop
 show (match (match evO s x with
   | some (.o (.c (.ptr h wd i j)))=>some (True,.o (.c (.fp true f h wd i j)),s.h,s.nx)
   | _=>none:Option (Prop × AV × Heap × Nat)) with|some r=>some r|none=>aopA ti s (.makeFunc (.func f) ⟨[x]⟩ ⟨[]⟩))=_
 rw [aopA_mf]
 unfold ev1
 rcases evO s x with _|((q|_)|_)
 · rfl
 · cases q<;>rfl
 · rfl
 · rfl
@[go_sem] theorem aop_closure (f:FuncId) (x:Operand):aop ti s (.makeFunc (.func f) ⟨[]⟩ ⟨[x]⟩)=ob (ev1 s x) fun a=>ob (pt1 a) fun q=>some (True,.o (.c (.fp false f q.1 q.2.1 q.2.2.1 q.2.2.2)),s.h,s.nx):=by
 unfold aop
 show (match (match evO s x with
   | some (.o (.c (.ptr h wd i j)))=>some (True,.o (.c (.fp false f h wd i j)),s.h,s.nx)
   | _=>none:Option (Prop × AV × Heap × Nat)) with|some r=>some r|none=>aopA ti s (.makeFunc (.func f) ⟨[]⟩ ⟨[x]⟩))=_
 rw [aopA_mf]
 unfold ev1
 rcases evO s x with _|((q|_)|_)
 · rfl
 · cases q<;>rfl
 · rfl
 · rfl
@[go_sem] theorem aop_func (f:FuncId):aop ti s (.makeFunc (.func f) ⟨[]⟩ ⟨[]⟩)=some (True,.o (.c (.t (.v (.func (.func f) #[] #[])))),s.h,s.nx):=rfl
def mp1:A1→Option Nat
 | .c (.mp h)=>some h
 | _=>none
def i64:A1→Option Int
 | .c (.t (.v (.int .i64 n)))=>some n
 | _=>none
def rawm:AObj→Option (Array MapEntry × Nat)
 | .raw (.map es c)=>some (es,c)
 | _=>none
def kmp:TK→Option (Nat × Nat)
 | .mp k e=>some (k,e)
 | _=>none
def kst:TK→Option Unit
 | .st _=>some ()
 | _=>none
def karr:TK→Option (Nat × Nat)
 | .arr n e=>some (n,e)
 | _=>none
def emp:A1→Option Unit
 | .g []=>some ()
 | _=>none
def grp:A1→Option (List Cell)
 | .g l=>some l
 | _=>none
def ifc:A1→Option Nat
 | .c (.t (.v (.iface d (.agg ⟨[]⟩))))=>some d
 | _=>none
def noz:List Value→Option Unit
 | []=>some ()
 | _=>none
attribute [go_sem] mp1 i64 rawm kmp kst karr emp grp ifc noz intK
@[go_sem] theorem aop_makeMap (t:TypeId) (x:Operand):aop ti s (.makeMap t (some x))=ob (ti t) fun tx=>ob (ev1 s x) fun q=>ob (in1 q) fun _=>ob (kmp tx.k) fun _=>some (True,.o (.c (.mp s.nx)),(s.nx,.raw (.map #[] 0)) ::s.h,s.nx+1):=by
 unfold ev1 aop aopB aopA;dsimp only
 rcases ti t with _|⟨k,_,_,_,_,_⟩<;>(try rfl)
 rcases evO s x with _|((_|_)|_)<;>(try rfl)
 rename_i q
 rcases q with (x|_|_)|_|_|_|_|_|_<;>(try rfl)
 cases x<;>(try rfl)
 cases k<;>rfl
@[go_sem] theorem aop_lookup (t:TypeId) (x i:Operand):aop ti s (.lookup t x i false)=ob (ti t) fun tx=>ob (ev1 s x) fun m=>ob (mp1 m) fun h=>ob (ev1 s i) fun k=>ob (i64 k) fun k=>ob (kmp tx.k) fun ke=>ob (look h s.h) fun o=>ob (rawm o) fun es=>ob (ti ke.1) fun tk=>ob (ti ke.2) fun _=>obf (intK tk.k) (some (intKeys es.1.toList=true∧(fdI k es.1.toList 0).isSome=true,.o (.c (.t (.v (.int .i64 (lkI k es.1.toList))))),s.h,s.nx)):=by
 unfold ev1 aop aopB aopA;dsimp only
 rcases ti t with _|⟨k,_,_,_,_,_⟩<;>(try rfl)
 rcases evO s x with _|((_|_)|_)<;>(try rfl)
 rename_i q
 cases q<;>(try rfl)
 rename_i h
 rcases evO s i with _|((_|_)|_)<;>(try rfl)
 rename_i q
 rcases q with (x|_|_)|_|_|_|_|_|_<;>(try rfl)
 cases x<;>(try rfl)
 rename_i kk n
 cases kk<;>(try rfl)
 cases k<;>(try rfl)
 dsimp only [ob,one,mp1,i64,kmp]
 rcases look h s.h with _|(_|_|o)<;>(try rfl)
 cases o<;>(try rfl)
 rename_i ke el es cl
 dsimp only [ob,rawm]
 rcases ti ke with _|tk<;>(try rfl)
 rcases ti el with _|te<;>(try rfl)
 dsimp only [ob,obf]
 cases intK tk.k<;>rfl
@[go_sem] theorem aop_mapUpdate (t:TypeId) (x i y:Operand):aop ti s (.mapUpdate t x i y)=ob (ti t) fun tx=>ob (ev1 s x) fun m=>ob (mp1 m) fun h=>ob (ev1 s i) fun k=>ob (i64 k) fun k=>ob (ev1 s y) fun n=>ob (i64 n) fun n=>ob (kmp tx.k) fun ke=>ob (look h s.h) fun o=>ob (rawm o) fun es=>ob (ti ke.1) fun tk=>obf (intK tk.k) (some (intKeys es.1.toList=true,.tup [],upd h (.raw (updM es.1 es.2 k n)) s.h,s.nx)):=by
 unfold ev1 aop aopB aopA;dsimp only
 rcases ti t with _|⟨k,_,_,_,_,_⟩<;>(try rfl)
 rcases evO s x with _|((_|_)|_)<;>(try rfl)
 rename_i q
 cases q<;>(try rfl)
 rename_i h
 rcases evO s i with _|((_|_)|_)<;>(try rfl)
 rename_i q
 rcases q with (x|_|_)|_|_|_|_|_|_<;>(try rfl)
 cases x<;>(try rfl)
 rename_i kk n
 cases kk<;>(try rfl)
 rcases evO s y with _|((_|_)|_)<;>(try rfl)
 rename_i q
 rcases q with (x|_|_)|_|_|_|_|_|_<;>(try rfl)
 cases x<;>(try rfl)
 rename_i kk n
 cases kk<;>(try rfl)
 cases k<;>(try rfl)
 dsimp only [ob,one,mp1,i64,kmp]
 rcases look h s.h with _|(_|_|o)<;>(try rfl)
 cases o<;>(try rfl)
 rename_i ke el es cl
 dsimp only [ob,rawm]
 rcases ti ke with _|tk<;>(try rfl)
 dsimp only [ob,obf]
 cases intK tk.k<;>rfl
@[go_sem] theorem aop_makeInterface (t:TypeId) (x:Operand):aop ti s (.makeInterface t x)=ob (ti t) fun tx=>ob (ev1 s x) fun q=>ob (emp q) fun _=>ob (kst tx.k) fun _=>some (True,.o (.c (.t (.v (.iface t (.agg ⟨[]⟩))))),s.h,s.nx):=by
 unfold ev1 aop aopB aopA;dsimp only
 rcases ti t with _|⟨k,_,_,_,_,_⟩<;>(try rfl)
 rcases evO s x with _|((_|l)|_)<;>(try rfl)
 cases l<;>(try rfl)
 cases k<;>rfl
@[go_sem] theorem aop_typeAssert (xt t:TypeId) (x:Operand):aop ti s (.typeAssert x xt t true)=ob (ti t) fun tx=>ob (ev1 s x) fun q=>ob (ifc q) fun d=>ob (kst tx.k) fun _=>ob (noz tx.zero) fun _=>some (True,.tup [.g [],.c (.t (.v (.bool (decide (d=t)))))],s.h,s.nx):=by
 unfold ev1 aop aopB aopA;dsimp only
 rcases ti t with _|⟨k,_,_,z,_,_⟩<;>(try rfl)
 rcases evO s x with _|((q|l)|_)<;>(try rfl)
 rcases q with (x|_|_)|_|_|_|_|_|_<;>(try rfl)
 cases x<;>(try rfl)
 rename_i d v
 cases v<;>(try rfl)
 rename_i cs
 obtain ⟨l⟩:=cs
 cases l<;>(try rfl)
 cases k<;>(try rfl)
 cases z<;>rfl
def idx1 (ti:Nat→Option TI):TK→A1→Int→Option (Prop × A1)
 | .arr len e,.g l,n=>ob (ti e) fun ex=>ob (partA ex l (n.toNat * ex.size)) fun r=>some (0≤n∧n < len,r)
 | .str,.c (.t (.v (.string b))),n=>some (0≤n∧n < b.size,.c (.t (.v (.int .u8 (b.data.toList.getD n.toNat 0).toNat))))
 | _,_,_=>none
attribute [go_sem] idx1
theorem aopB_idx (t:TypeId) (x i:Operand):aopB ti s (.index t x i)=match ti t,evO s x,evO s i with
   | some tx,some (.o (.c (.t (.v (.string b))))),some (.o (.c (.t (.v (.int _ n)))))=>match tx.k with
     | .str=>some (0≤n∧n < b.size,.o (.c (.t (.v (.int .u8 (b.data.toList.getD n.toNat 0).toNat)))),s.h,s.nx)
     | _=>none
   | some tx,some (.o (.g l)),some (.o (.c (.t (.v (.int _ n)))))=>match tx.k with
     | .arr len e=>match ti e with
       | some ex=>match partA ex l (n.toNat * ex.size) with
         | some r=>some (0≤n∧n < len,.o r,s.h,s.nx)
         | none=>none
       | none=>none
     | _=>none
   | _,_,_=>none:=rfl
theorem aopA_idx (t:TypeId) (x i:Operand):aopA ti s (.index t x i)=none:=rfl
@[go_sem] theorem aop_index (t:TypeId) (x i:Operand):aop ti s (.index t x i)=ob (ti t) fun tx=>ob (ev1 s x) fun q=>ob (ev1 s i) fun n=>ob (in1 n) fun n=>ob (idx1 ti tx.k q n.2) fun r=>some (r.1,.o r.2,s.h,s.nx):=by
 unfold aop
 rw [aopB_idx,aopA_idx];unfold ev1
 rcases ti t with _|⟨k,_,_,z,_,_⟩<;>(try rfl)
 rcases evO s x with _|((q|l)|_)<;>(try rfl)
 · rcases evO s i with _|((u|_)|_)<;>(try (rcases q with (x|_|_)|_|_|_|_|_|_<;>(try rfl)<;>cases x<;>rfl))
   rcases u with (y|_|_)|_|_|_|_|_|_<;>(try (rcases q with (x|_|_)|_|_|_|_|_|_<;>(try rfl)<;>cases x<;>rfl))
   cases y<;>(try (rcases q with (x|_|_)|_|_|_|_|_|_<;>(try rfl)<;>cases x<;>rfl))
   rcases q with (x|_|_)|_|_|_|_|_|_<;>(try (cases k<;>rfl))
   cases x<;>cases k<;>rfl
 · rcases evO s i with _|((u|_)|_)<;>(try rfl)
   rcases u with (y|_|_)|_|_|_|_|_|_<;>(try rfl)
   cases y<;>(try rfl)
   cases k<;>(try rfl)
   rename_i kk n len e
   dsimp only [ob,one,idx1,in1]
   rcases ti e with _|ex<;>(try rfl)
   dsimp only [ob]
   rcases partA ex l (n.toNat * ex.size) with _|_<;>rfl
@[go_sem] theorem aop_xor (t:TypeId) (x y:Operand) (yt:TypeId):aop ti s (.binOp .xor t x y yt)=ob (ev1 s x) fun a=>ob (i64 a) fun a=>ob (ev1 s y) fun b=>ob (i64 b) fun b=>some (True,scal (.int .i64 (xorI a b)),s.h,s.nx):=by
 have hA:aopA ti s (.binOp .xor t x y yt)=none:=by
   unfold aopA;dsimp only
   rcases evO s x with _|(a|_)<;>(try rfl)
   rcases evO s y with _|(b|_)<;>(try rfl)
   dsimp only
   have:cmpA ti .xor t a b=none:=by
     unfold cmpA
     rcases ti t with _|⟨k,_,_,_,c,_⟩<;>(try rfl)
     have hbin:∀ a b,binA .xor a b=none:=by
       intro a b
       unfold binA
       split<;>(try rfl)
       rename_i k a k' b
       cases decide (k=k')<;>rfl
     cases k<;>(try rfl)
     all_goals (try simp only [cond_eq_ite])
     all_goals (repeat' (first|rfl|exact hbin _ _|split))
   rw [this]
 unfold ev1 aop
 rw [hA]
 unfold aopB;dsimp only
 rcases evO s x with _|((q|l)|_)<;>(try rfl)
 rcases q with (v|_|_)|_|_|_|_|_|_<;>(try rfl)
 cases v<;>(try rfl)
 rename_i kk n
 cases kk<;>(try rfl)
 rcases evO s y with _|((q|l)|_)<;>(try rfl)
 rcases q with (v|_|_)|_|_|_|_|_|_<;>(try rfl)
 cases v<;>(try rfl)
 rename_i kk n
 cases kk<;>rfl
@[go_sem] theorem aop_max (x y:Operand) (tys:Array TypeId):aop ti s (.call ⟨.builtin .max,⟨[x,y]⟩,tys⟩)=ob (ev1 s x) fun a=>ob (i64 a) fun a=>ob (ev1 s y) fun b=>ob (i64 b) fun b=>some (True,scal (.int .i64 (if a < b then b else a)),s.h,s.nx):=by
 unfold ev1 aop aopB aopA;dsimp only
 rcases evO s x with _|((q|l)|_)<;>(try rfl)
 rcases q with (v|_|_)|_|_|_|_|_|_<;>(try rfl)
 cases v<;>(try rfl)
 rename_i kk n
 cases kk<;>(try rfl)
 rcases evO s y with _|((q|l)|_)<;>(try rfl)
 rcases q with (v|_|_)|_|_|_|_|_|_<;>(try rfl)
 cases v<;>(try rfl)
 rename_i kk n
 cases kk<;>rfl
@[go_sem] theorem aop_min (x y:Operand) (tys:Array TypeId):aop ti s (.call ⟨.builtin .min,⟨[x,y]⟩,tys⟩)=ob (ev1 s x) fun a=>ob (i64 a) fun a=>ob (ev1 s y) fun b=>ob (i64 b) fun b=>some (True,scal (.int .i64 (if b < a then b else a)),s.h,s.nx):=by
 unfold ev1 aop aopB aopA;dsimp only
 rcases evO s x with _|((q|l)|_)<;>(try rfl)
 rcases q with (v|_|_)|_|_|_|_|_|_<;>(try rfl)
 cases v<;>(try rfl)
 rename_i kk n
 cases kk<;>(try rfl)
 rcases evO s y with _|((q|l)|_)<;>(try rfl)
 rcases q with (v|_|_)|_|_|_|_|_|_<;>(try rfl)
 cases v<;>(try rfl)
 rename_i kk n
 cases kk<;>rfl
@[go_sem] theorem callA_invoke (x:Operand) (n:String) (args:List Operand) (tys:Array TypeId):callA ti s (.call ⟨.invoke x n,⟨args⟩,tys⟩)=ob (ev1 s x) fun a=>ob (ifc a) fun d=>ob (argsA s args) fun l=>ob (ti d) fun td=>ob (mth n td.meth) fun f=>some (f,.g [] ::l):=by
 unfold ev1 callA;dsimp only
 rcases evO s x with _|((q|l)|_)<;>(try rfl)
 rcases q with (v|_|_)|_|_|_|_|_|_<;>(try rfl)
 cases v<;>(try rfl)
 rename_i d v
 cases v<;>(try rfl)
 rename_i cs
 obtain ⟨l⟩:=cs
 cases l<;>(try rfl)
 rcases argsA s args with _|l<;>(try rfl)
 dsimp only [ob,one,ifc]
 rcases ti d with _|td<;>(try rfl)
 dsimp only [ob]
 rcases mth n td.meth with _|f<;>rfl
@[go_sem] theorem mth_same (n:String) (f:Nat) (r:List (String × Nat)):mth n ((n,f) ::r)=some f:=by simp [mth]
@[go_sem] theorem callA_makeMap (t:TypeId) (x:Option Operand):callA ti s (.makeMap t x)=none:=rfl
@[go_sem] theorem callA_lookup (t:TypeId) (x i:Operand) (c:Bool):callA ti s (.lookup t x i c)=none:=rfl
@[go_sem] theorem callA_mapUpdate (t:TypeId) (x i y:Operand):callA ti s (.mapUpdate t x i y)=none:=rfl
@[go_sem] theorem callA_makeInterface (t:TypeId) (x:Operand):callA ti s (.makeInterface t x)=none:=rfl
@[go_sem] theorem callA_typeAssert (xt t:TypeId) (x:Operand) (c:Bool):callA ti s (.typeAssert x xt t c)=none:=rfl
@[go_sem] theorem callA_index (t:TypeId) (x i:Operand):callA ti s (.index t x i)=none:=rfl
@[go_sem] theorem callA_builtin (b:Builtin) (args:Array Operand) (tys:Array TypeId):callA ti s (.call ⟨.builtin b,args,tys⟩)=none:=rfl
@[go_sem] theorem callA_move (x:Operand):callA ti s (.move x)=none:=rfl
@[go_sem] theorem callA_assign (x:Operand):callA ti s (.assign x)=none:=rfl
@[go_sem] theorem callA_pick (c a b:Operand):callA ti s (.pick c a b)=none:=rfl
@[go_sem] theorem callA_alloc (t:TypeId):callA ti s (.alloc t)=none:=rfl
@[go_sem] theorem callA_box (t:TypeId) (x:Operand):callA ti s (.box t x)=none:=rfl
@[go_sem] theorem callA_build (t:TypeId) (parts:Array (Nat × Operand)):callA ti s (.build t parts)=none:=rfl
@[go_sem] theorem callA_buildSlice (t:TypeId) (n:Nat) (parts:Array (Nat × Operand)):callA ti s (.buildSlice t n parts)=none:=rfl
@[go_sem] theorem callA_load (t:TypeId) (x:Operand):callA ti s (.load t x)=none:=rfl
@[go_sem] theorem callA_store (t:TypeId) (a x:Operand):callA ti s (.store t a x)=none:=rfl
@[go_sem] theorem callA_nilCheck (x:Operand):callA ti s (.nilCheck x)=none:=rfl
@[go_sem] theorem callA_binOp (op:BinOp) (t:TypeId) (x y:Operand) (yt:TypeId):callA ti s (.binOp op t x y yt)=none:=rfl
@[go_sem] theorem callA_unOp (op:UnOp) (t:TypeId) (x:Operand):callA ti s (.unOp op t x)=none:=rfl
@[go_sem] theorem callA_convert (src dst:TypeId) (x:Operand):callA ti s (.convert src dst x)=none:=rfl
@[go_sem] theorem callA_fieldAddr (t:TypeId) (x:Operand) (f:Nat):callA ti s (.fieldAddr t x f)=none:=rfl
@[go_sem] theorem callA_field (t:TypeId) (x:Operand) (f:Nat):callA ti s (.field t x f)=none:=rfl
@[go_sem] theorem callA_indexAddr (t:TypeId) (x i:Operand):callA ti s (.indexAddr t x i)=none:=rfl
@[go_sem] theorem callA_slice (t:TypeId) (x:Operand) (lo hi mx:Option Operand):callA ti s (.slice t x lo hi mx)=none:=rfl
@[go_sem] theorem callA_makeSlice (t:TypeId) (l c:Operand):callA ti s (.makeSlice t l c)=none:=rfl
@[go_sem] theorem callA_extract (x:Operand) (i:Nat):callA ti s (.extract x i)=none:=rfl
end
attribute [go_sem] wantA argsA evO cst look rem upd partsA cmpA eqL binA numB isNil loadA storeA stc tab fieldA fldA partA indexA zcells fillA sizes buildA litA litObj reps appendA lenA copyA boundA sliceA St.put A1.cells scal nilOk TI.agg resL tupA inT minus thenQ blockQ finQ
@[go_sem] theorem nbeq (a b:Nat):Nat.beq a b=(a == b):=by
 cases h:Nat.beq a b with
 | true=>have:=Nat.eq_of_beq_eq_true h;simp [this]
 | false=>have:=Nat.ne_of_beq_eq_false h;simp [this]
@[go_sem] theorem nble (a b:Nat):Nat.ble a b=decide (a≤b):=by
 cases h:Nat.ble a b with
 | true=>have:=Nat.le_of_ble_eq_true h;simp [this]
 | false => have:¬ a≤b:=fun hh=>by rw [Nat.ble_eq_true_of_le hh] at h;cases h
            simp [this]
@[go_sem] theorem beq_add (k n:Nat):(k == k+(n+1))=false:=by simp
@[go_sem] theorem add_beq (k n:Nat):(k+(n+1) == k)=false:=by simp
attribute [go_sem] cond_true cond_false Option.map plain
attribute [go_sem] List.all List.drop List.take List.length List.map List.cons_append List.nil_append List.append_nil List.getElem?_cons_zero List.getElem?_cons_succ List.getElem?_nil List.toList_toArray
attribute [go_sem] List.getD_cons_zero List.getD_cons_succ List.getD_nil exists_const
attribute [go_sem] true_and and_true eq_self Bool.and_self Bool.true_and Bool.and_true Bool.not_true Bool.not_false Bool.or_true Bool.true_or Bool.or_false Bool.false_or Bool.false_and Bool.and_false
attribute [go_sem] isCv cvS cvOk
attribute [go_sem] AObj.void clr clrL keepL memN pickH dropH putL loadK avle a1le sle rn tupA All2 hsub allP A1.flat AV.flat hflat
@[go_sem] theorem tle_self {x:TV}:tle x x=True:=by simp [tle_refl]
def rle (H:Heap) (fz:Nat→Prop) (τ:List (Nat × Nat)) (N wd n:Nat) (f g:Nat→Nat→Cell):Prop:=∀ i,i < n→∀ j,j < wd→cle H fz τ N (f i j) (g i j)
def tlr (H:Heap) (fz:Nat→Prop) (n wd s m:Nat) (f:Nat→Nat→Cell) (g:Nat→Nat→TV):Prop:=∀ i,i < m→∀ j,j < wd→tof H fz n (f (s+i) j) (g i j)
def tlT (wd n:Nat) (f g:Nat→Nat→TV):Prop:=∀ i,i < n→∀ j,j < wd→tle (f i j) (g i j)
@[go_sem] theorem tlT_self {wd n:Nat} {f:Nat→Nat→TV}:tlT wd n f f=True:=by simp [tlT,tle_refl]
@[go_sem] theorem rle_none {H:Heap} {fz:Nat→Prop} {τ:List (Nat × Nat)} {N wd:Nat} {f g:Nat→Nat→Cell}:rle H fz τ N wd 0 f g=True:=by simp [rle]
@[go_sem] theorem tlr_none {H:Heap} {fz:Nat→Prop} {n wd s:Nat} {f:Nat→Nat→Cell} {g:Nat→Nat→TV}:tlr H fz n wd s 0 f g=True:=by simp [tlr]
@[go_sem] theorem tle_v {x y:Value}:tle (.v x) (.v y)=(x=y):=rfl
@[go_sem] theorem tle_v_sl {x:Value} {w n:Nat} {f:Nat→Nat→TV}:tle (.v x) (.sl w n f)=(x=.slice none 0 0∧n=0):=rfl
@[go_sem] theorem tle_sl {w n w' n':Nat} {f g:Nat→Nat→TV}:tle (.sl w n f) (.sl w' n' g)=(w=w'∧n=n'∧tlT w n f g):=rfl
@[go_sem] theorem tle_ptr {w w':Nat} {f g:Nat→TV}:tle (.ptr w f) (.ptr w' g)=(w=w'∧∀ j,j < w→tle (f j) (g j)):=rfl
@[go_sem] theorem tof_t {H:Heap} {fz:Nat→Prop} {n:Nat} {x y:TV}:tof H fz n (.t x) y=tle x y:=by cases n<;>rfl
def allIx (p:Nat→Cell→Prop):Nat→List Cell→Prop
 | _,[]=>True
 | k,c ::l=>p k c∧allIx p (k+1) l
theorem allIx_iff {p:Nat→Cell→Prop}:∀ {l:List Cell} {k:Nat},allIx p k l ↔ ∀ j c,l[j]? = some c→p (k+j) c
 | [],k=>by simp [allIx]
 | x ::l,k=>by
   simp only [allIx,allIx_iff (l:=l)]
   constructor
   · rintro ⟨h1,h2⟩ j c hj
     cases j with
     | zero=>simp at hj;subst hj;exact h1
     | succ j=>have:=h2 j c (by simpa using hj);rw [show k+(j+1)=k+1+j from by omega];exact this
   · intro h
     exact ⟨by simpa using h 0 x (by simp),fun j c hj=>by rw [show k+1+j=k+(j+1) from by omega];exact h (j+1) c (by simpa using hj)⟩
def tofR (H:Heap) (fz:Nat→Prop) (n wd s m:Nat) (g:Nat→Nat→TV):Option AObj→Prop
 | some (.row wd'' k f)=>wd''=wd∧s+m≤k∧tlr H fz n wd s m f g
 | some (.box l)=>s=0∧m * wd≤l.length∧allIx (fun k c=>tof H fz n c (g (k / wd) (k % wd))) 0 l
 | _=>False
def tofB (H:Heap) (fz:Nat→Prop) (n o w':Nat) (g:Nat→TV):Option AObj→Prop
 | some (.box l)=>o=0∧w'=l.length∧allIx (fun k c=>tof H fz n c (g k)) 0 l
 | _=>False
@[go_sem] theorem tof_sl {H:Heap} {fz:Nat→Prop} {n h wd s m wd' m':Nat} {g:Nat→Nat→TV}:tof H fz (n+1) (.sl h wd s m) (.sl wd' m' g)=(fz h∧wd=wd'∧m=m'∧tofR H fz n wd s m g (look h H)):=by
 simp only [tof]
 rcases look h H with _|(_|_|_)<;>(try rfl)
 simp only [tofR,allIx_iff,Nat.zero_add]
@[go_sem] theorem tof_ptr {H:Heap} {fz:Nat→Prop} {n h wd i j w':Nat} {g:Nat→TV}:tof H fz (n+1) (.ptr h wd i j) (.ptr w' g)=(fz h∧tofB H fz n (i * wd+j) w' g (look h H)):=by
 simp only [tof]
 rcases look h H with _|(_|_|_)<;>(try rfl)
 simp only [tofB,allIx_iff,Nat.zero_add]
attribute [go_sem] tofR tofB allIx
def rflat (wd n:Nat) (f:Nat→Nat→Cell):Prop:=∀ i,i < n→∀ j,j < wd→(f i j).flat
@[go_sem] theorem flat_v {x:Value}:(Cell.t (.v x)).flat=True:=rfl
@[go_sem] theorem flat_tsl {w n:Nat} {f:Nat→Nat→TV}:(Cell.t (.sl w n f)).flat=False:=rfl
@[go_sem] theorem flat_tptr {w:Nat} {f:Nat→TV}:(Cell.t (.ptr w f)).flat=False:=rfl
@[go_sem] theorem flat_ptr {h wd i j:Nat}:(Cell.ptr h wd i j).flat=True:=rfl
@[go_sem] theorem flat_sl {h wd s n:Nat}:(Cell.sl h wd s n).flat=True:=rfl
@[go_sem] theorem flat_mp {h:Nat}:(Cell.mp h).flat=True:=rfl
@[go_sem] theorem flat_ch {h:Nat}:(Cell.ch h).flat=True:=rfl
@[go_sem] theorem flat_fp {q:Bool} {f:FuncId} {h wd i j:Nat}:(Cell.fp q f h wd i j).flat=True:=rfl
@[go_sem] theorem flat_box {l:List Cell}:(AObj.box l).flat=allP Cell.flat l:=rfl
@[go_sem] theorem flat_row {wd n:Nat} {f:Nat→Nat→Cell}:(AObj.row wd n f).flat=rflat wd n f:=rfl
@[go_sem] theorem flat_raw {o:Obj}:(AObj.raw o).flat=True:=rfl
@[go_sem] theorem flat_tbx {e:TypeId} {l:List Cell}:(AObj.tbx e l).flat=allP Cell.flat l:=rfl
@[go_sem] theorem flat_glob {g:Nat} {v:Value}:(AObj.glob g v).flat=True:=rfl
@[go_sem] theorem rflat_none {wd:Nat} {f:Nat→Nat→Cell}:rflat wd 0 f=True:=by simp [rflat]
section
variable {H:Heap} {fz:Nat→Prop} {τ:List (Nat × Nat)} {N:Nat}
@[go_sem] theorem cle_t {x:Cell} {y:TV}:cle H fz τ N x (.t y)=tof H fz 6 x y:=by cases x<;>rfl
@[go_sem] theorem cle_ptr {h wd i j h' wd' i' j':Nat}:cle H fz τ N (.ptr h wd i j) (.ptr h' wd' i' j')=(h=rn τ h'∧h' < N∧i * wd+j=i' * wd'+j'):=rfl
@[go_sem] theorem cle_sl {h wd s n h' wd' s' n':Nat}:cle H fz τ N (.sl h wd s n) (.sl h' wd' s' n')=(h=rn τ h'∧h' < N∧wd=wd'∧s=s'∧n=n'):=rfl
@[go_sem] theorem cle_nil {h wd s n:Nat}:cle H fz τ N (.t (.v (.slice none 0 0))) (.sl h wd s n)=(n=0):=rfl
@[go_sem] theorem cle_tp {wd wd' j j':Nat} {f g:Nat→TV}:cle H fz τ N (.tp wd f j) (.tp wd' g j')=(wd=wd'∧j=j'∧∀ k,k < wd→tle (f k) (g k)):=rfl
@[go_sem] theorem cle_mp {h h':Nat}:cle H fz τ N (.mp h) (.mp h')=(h=rn τ h'∧h' < N):=rfl
@[go_sem] theorem cle_ch {h h':Nat}:cle H fz τ N (.ch h) (.ch h')=(h=rn τ h'∧h' < N):=rfl
@[go_sem] theorem cle_fp {q q':Bool} {f f':FuncId} {h wd i j h' wd' i' j':Nat}:cle H fz τ N (.fp q f h wd i j) (.fp q' f' h' wd' i' j')=(q=q'∧f=f'∧h=rn τ h'∧h' < N∧i * wd+j=i' * wd'+j'):=rfl
@[go_sem] theorem ole_box {l m:List Cell}:ole H fz τ N (.box l) (.box m)=All2 (cle H fz τ N) l m:=rfl
@[go_sem] theorem ole_row {wd n wd' n':Nat} {f g:Nat→Nat→Cell}:ole H fz τ N (.row wd n f) (.row wd' n' g)=(wd=wd'∧n'≤n∧rle H fz τ N wd n' f g):=rfl
@[go_sem] theorem ole_raw {o o':Obj}:ole H fz τ N (.raw o) (.raw o')=(o=o'):=rfl
@[go_sem] theorem ole_tbx {e e':TypeId} {l m:List Cell}:ole H fz τ N (.tbx e l) (.tbx e' m)=(e=e'∧All2 (cle H fz τ N) l m):=rfl
@[go_sem] theorem ole_glob {g g':Nat} {v v':Value}:ole H fz τ N (.glob g v) (.glob g' v')=(g=g'∧v=v'):=rfl
end
attribute [go_sem] implies_true and_self Value.bool.injEq Value.int.injEq Value.string.injEq List.mem_cons List.not_mem_nil or_false false_or or_true true_or not_false_eq_true not_true_eq_false false_and and_false
theorem mixed:Go.Proofs.Tryz.prog.follows .mixedOrders=true:=by kernel_rfl
theorem Fits.of {x:Int} (h1:-9223372036854775808≤x) (h2:x≤9223372036854775807):Fits .i64 x:=⟨h1,h2⟩
theorem allP_mem {α:Type} {p:α→Prop}:∀ {l:List α},allP p l→∀ x ∈ l,p x
 | [],_,x,hx=>by cases hx
 | y ::l,h,x,hx=>by
   rcases List.mem_cons.1 hx with e|e
   · rw [e];exact h.1
   · exact allP_mem h.2 x e
def isIn (h:Heap) (k:Nat):Prop:=match look k h with
 | some _=>True
 | none=>False
attribute [go_sem] isIn
theorem SLe.of {c:Ctx} {s s':St} (τ:List (Nat × Nat)) (fz:List Nat)
   (h:allP (fun x:Nat × Nat=>c.k0≤x.1) τ∧c.k0≤s'.nx∧allP (isIn s.h) fz∧sle s.h (fun h=>h ∈ fz) τ s'.nx s.t s'.t∧hle s.h (fun h=>h ∈ fz) τ s'.nx s'.h):SLe c s s':=by
 obtain ⟨h1,h2,h3,h4,h5⟩:=h
 refine SLe.mk τ (fun h=>h ∈ fz) (allP_mem h1) h2 (fun h hh=>?_) h4 h5
 have:=allP_mem h3 h hh
 unfold isIn at this
 split at this
 · rename_i o ho;exact ⟨o,ho⟩
 · exact this.elim
@[go_sem] theorem rnF_nil (N h:Nat):rnF [] N h=N+h:=by simp [rnF]
@[go_sem] theorem rnF_zero (x:Nat) (σ:List Nat) (N:Nat):rnF (x ::σ) N 0=x:=by simp [rnF]
@[go_sem] theorem rnF_succ (x:Nat) (σ:List Nat) (N h:Nat):rnF (x ::σ) N (h+1)=rnF σ N h:=by simp [rnF]
attribute [go_sem] Cell.ren A1.ren AV.ren hren Nat.zero_add Nat.add_zero and_self
def liftT (f:Nat→Nat→TV):Nat→Nat→Cell:=fun i j=>.t (f i j)
def shF (s:Nat) (f:Nat→Nat→Cell):Nat→Nat→Cell:=fun i j=>f (s+i) j
def renF (g:Nat→Nat) (f:Nat→Nat→Cell):Nat→Nat→Cell:=fun i j=>(f i j).ren g
def mkF (z:List Cell):Nat→Nat→Cell:=fun _ j=>z.getD j (.t (.v (.bool false)))
def subT (s:Nat) (f:Nat→Nat→TV):Nat→Nat→TV:=fun i j=>f (s+i) j
def elemsR (wd s n:Nat):AObj→Option (Prop × Nat × Nat × (Nat→Nat→Cell))
 | .row wd' m f=>obf (Nat.beq wd wd') (some (s+n≤m,wd,n,shF s f))
 | _=>none
attribute [go_sem] elemsR
@[go_sem] theorem elemsA_tree {h:Heap} {wd n:Nat} {f:Nat→Nat→TV}:elemsA h (.c (.t (.sl wd n f)))=some (True,wd,n,liftT f):=rfl
@[go_sem] theorem elemsA_sl {h:Heap} {k wd s n:Nat}:elemsA h (.c (.sl k wd s n))=ob (look k h) (elemsR wd s n):=by
 simp only [elemsA]
 rcases look k h with _|(_|_|_|_)<;>rfl
@[go_sem] theorem ren_box {g:Nat→Nat} {l:List Cell}:(AObj.box l).ren g=.box (l.map (Cell.ren g)):=rfl
@[go_sem] theorem ren_row {g:Nat→Nat} {wd n:Nat} {f:Nat→Nat→Cell}:(AObj.row wd n f).ren g=.row wd n (renF g f):=rfl
@[go_sem] theorem ren_raw {g:Nat→Nat} {o:Obj}:(AObj.raw o).ren g=.raw o:=rfl
@[go_sem] theorem ren_tbx {g:Nat→Nat} {e:TypeId} {l:List Cell}:(AObj.tbx e l).ren g=.tbx e (l.map (Cell.ren g)):=rfl
@[go_sem] theorem ren_glob {g:Nat→Nat} {k:Nat} {v:Value}:(AObj.glob k v).ren g=.glob k v:=rfl
@[go_sem] theorem shF_zero {f:Nat→Nat→Cell}:shF 0 f=f:=by funext i j;unfold shF;rw [Nat.zero_add]
@[go_sem] theorem subT_zero {f:Nat→Nat→TV}:subT 0 f=f:=by funext i j;unfold subT;rw [Nat.zero_add]
def makeK (te:TI):A1→A1→Option (Prop × Nat × Nat × (Nat→Nat→Cell))
 | .c (.t (.v (.int _ n))),.c (.t (.v (.int _ m)))=>ob (zcells te) fun z=>obf (Nat.beq z.length te.size && Nat.ble 1 te.size && Nat.ble te.bytes 4096) (some (0≤n∧n=m∧m≤1000000,te.size,n.toNat,mkF z))
 | _,_=>none
def eltK:TK→Option Nat
 | .sli e=>some e
 | _=>none
attribute [go_sem] makeK eltK
@[go_sem] theorem makeA_eq {ti:Nat→Option TI} {t:Nat} {l c:A1}:makeA ti t l c=ob (ti t) fun tx=>ob (eltK tx.k) fun e=>ob (ti e) fun te=>makeK te l c:=by
 unfold makeA
 rcases ti t with _|⟨k,_,_,_,_⟩<;>(try rfl)
 cases k<;>(try rfl)
 rename_i e
 dsimp only [ob,eltK]
 rcases ti e with _|te<;>(try rfl)
 dsimp only
 rcases l with (l|_)|_<;>(try rfl)
 rcases l with l|_|_<;>(try rfl)
 cases l<;>(try rfl)
 rcases c with (c|_|_|_|_|_|_)|_<;>(try rfl)
 rcases c with c|_|_<;>(try rfl)
 cases c<;>(try rfl)
 dsimp only [makeK]
 rcases zcells te with _|z<;>rfl
theorem Fin.mk {ti:Nat→Option TI} {rs:List ResultVar} {k:Nat} {res:AV} {H':Heap} {k':Nat} {s:St} (τ:List (Nat × Nat)) (fz:List Nat)
   (h:match resL ti s rs with
     | some (p,l)=>p∧allP (fun x:Nat × Nat=>k≤x.1) τ∧allP (fun h=>match look h s.h with|some _=>True|none=>False) fz∧avle s.h (fun h=>h ∈ fz) τ k' (tupA l) res∧hle s.h (fun h=>h ∈ fz) τ k' H'
     | none=>False):Fin ti rs k res H' k' s:=by
 split at h
 · rename_i p l he
   obtain ⟨h1,h2,h3,h4,h5⟩:=h
   refine ⟨τ,fun h=>h ∈ fz,p,l,he,h1,?_,?_,h4,h5⟩
   · have:∀ {l:List (Nat × Nat)},allP (fun x:Nat × Nat=>k≤x.1) l→∀ x ∈ l,k≤x.1:=by
       intro l
       induction l with
       | nil=>intro _ x hx;cases hx
       | cons y l ih =>
         intro hl x hx
         rcases List.mem_cons.1 hx with e|e
         · rw [e];exact hl.1
         · exact ih hl.2 x e
     exact this h2
   · have:∀ {l:List Nat},allP (fun h=>match look h s.h with|some _=>True|none=>False) l→∀ x ∈ l,∃ o,look x s.h=some o:=by
       intro l
       induction l with
       | nil=>intro _ x hx;cases hx
       | cons y l ih =>
         intro hl x hx
         rcases List.mem_cons.1 hx with e|e
         · have:=hl.1
           rw [e]
           dsimp only at this
           split at this
           · rename_i o ho;exact ⟨o,ho⟩
           · exact this.elim
         · exact ih hl.2 x e
     exact this h3
 · exact h.elim
def colC (k:Nat):Cell→Cell→List (Nat × Nat)
 | .sl h _ _ _,.sl h' _ _ _=>bif Nat.ble k h' then [(h',h)] else []
 | .ptr h _ _ _,.ptr h' _ _ _=>bif Nat.ble k h' then [(h',h)] else []
 | .t (.v (.slice none 0 0)),.sl h' _ _ _=>bif Nat.ble k h' then [(h',1000000+h')] else []
 | .mp h,.mp h'=>bif Nat.ble k h' then [(h',h)] else []
 | .ch h,.ch h'=>bif Nat.ble k h' then [(h',h)] else []
 | .fp _ _ h _ _ _,.fp _ _ h' _ _ _=>bif Nat.ble k h' then [(h',h)] else []
 | _,_=>[]
def colL (k:Nat):List Cell→List Cell→List (Nat × Nat)
 | x ::l,y ::m=>colC k x y++colL k l m
 | _,_=>[]
def colA (k:Nat):A1→A1→List (Nat × Nat)
 | .c x,.c y=>colC k x y
 | .g l,.g m=>colL k l m
 | _,_=>[]
def colAs (k:Nat):List A1→List A1→List (Nat × Nat)
 | x ::l,y ::m=>colA k x y++colAs k l m
 | _,_=>[]
def colV (k:Nat):AV→AV→List (Nat × Nat)
 | .o x,.o y=>colA k x y
 | .tup l,.tup m=>colAs k l m
 | _,_=>[]
def colO (k:Nat) (τ:List (Nat × Nat)) (m:List Cell):Option AObj→List (Nat × Nat)
 | some (.box l)=>τ++colL k l m
 | some (.tbx _ l)=>τ++colL k l m
 | _=>τ
def colH (k:Nat) (H:Heap):Heap→List (Nat × Nat)→List (Nat × Nat)
 | [],τ=>τ
 | (h',.box m) ::r,τ=>colH k H r (colO k τ m (look (rn τ h') H))
 | (_,.row _ _ _) ::r,τ=>colH k H r τ
 | (_,.raw _) ::r,τ=>colH k H r τ
 | (_,.glob _ _) ::r,τ=>colH k H r τ
 | (h',.tbx _ m) ::r,τ=>colH k H r (colO k τ m (look (rn τ h') H))
def colS (k:Nat) (v':AV):Option AV→List (Nat × Nat)
 | some v=>colV k v v'
 | none=>[]
def colT (k:Nat) (t:List (Nat × AV)):List (Nat × AV)→List (Nat × Nat)
 | []=>[]
 | (j,v') ::r=>colS k v' (look j t)++colT k t r
def nms (τ:List (Nat × Nat)):Heap→List Nat
 | []=>[]
 | (h',_) ::r=>rn τ h' ::nms τ r
def nodN:List Nat→Bool
 | []=>true
 | x ::r=>!memN x r && nodN r
def hlo (H:Heap) (fz τ:List (Nat × Nat)) (N:Nat) (fzl:List Nat) (o':AObj):Option AObj→Prop
 | some o=>ole H (fun h=>h ∈ fzl) τ N o o'
 | none=>o'.void=true
def hlx (H:Heap) (fz:List Nat) (τ:List (Nat × Nat)) (N:Nat):Heap→List Nat→Prop
 | (h',o') ::r,n ::ns=>Nat.blt h' N=true∧memN n fz=false∧hlo H τ τ N fz o' (look n H)∧hlx H fz τ N r ns
 | [],[]=>True
 | _,_=>False
theorem memN_iff {k:Nat}:∀ {l:List Nat},memN k l=false→k ∉ l
 | [],_=>by simp
 | j ::r,h=>by
   simp only [memN,cond_eq_ite] at h
   split at h
   · cases h
   · rename_i e
     have e:j ≠ k:=by simpa using e
     simp only [List.mem_cons,not_or]
     exact ⟨fun h=>e h.symm,memN_iff h⟩
theorem hlx_hle {H:Heap} {fz:List Nat} {τ:List (Nat × Nat)} {N:Nat}:∀ {H':Heap},nodN (nms τ H')=true→hlx H fz τ N H' (nms τ H')→hle H (fun h=>h ∈ fz) τ N H'
 | [],_,_=>trivial
 | (h',o') ::r,h1,h2=>by
   simp only [nms,nodN,Bool.and_eq_true,Bool.not_eq_true'] at h1
   simp only [nms,hlx] at h2
   obtain ⟨a1,a2,a3,a4⟩:=h2
   refine ⟨by simpa [Nat.blt_eq] using a1,memN_iff a2,?_,?_,hlx_hle h1.2 a4⟩
   · unfold hlo at a3
     exact a3
   · rw [List.all_eq_true]
     intro x hx
     have hx2:rn τ x.1 ∈ nms τ r:=by
       have:∀ {r:Heap},x ∈ r→rn τ x.1 ∈ nms τ r:=by
         intro r
         induction r with
         | nil=>intro h;cases h
         | cons y r ih =>
           intro h
           rcases List.mem_cons.1 h with e|e
           · rw [e];simp [nms]
           · simp [nms,ih e]
       exact this hx
     cases hb:Nat.beq (rn τ x.1) (rn τ h') with
     | false=>rfl
     | true =>
       have:=Nat.eq_of_beq_eq_true hb
       rw [this] at hx2
       exact absurd hx2 (memN_iff h1.1)
def finG (s:St) (fz:List Nat) (k k':Nat) (res:AV) (H':Heap) (l:List A1) (τ:List (Nat × Nat)):Prop :=
 allP (fun x:Nat × Nat=>Nat.ble k x.1=true) τ∧allP (isIn s.h) fz∧avle s.h (fun h=>h ∈ fz) τ k' (tupA l) res∧nodN (nms τ H')=true∧hlx s.h fz τ k' H' (nms τ H')
def finO (s:St) (fz:List Nat) (k k':Nat) (res:AV) (H':Heap):Option (Prop × List A1)→Prop
 | some (p,l)=>p∧finG s fz k k' res H' l (colH k s.h H' (colV k (tupA l) res))
 | none=>False
theorem isIn_some {H:Heap} {h:Nat} (hh:isIn H h):∃ o,look h H=some o:=by
 unfold isIn at hh
 split at hh
 · rename_i o ho;exact ⟨o,ho⟩
 · exact hh.elim
theorem Fin.auto {ti:Nat→Option TI} {rs:List ResultVar} {k:Nat} {res:AV} {H':Heap} {k':Nat} {s:St} (fz:List Nat) (h:finO s fz k k' res H' (resL ti s rs)):Fin ti rs k res H' k' s:=by
 unfold finO at h
 split at h
 · rename_i p l he
   obtain ⟨h1,h2,h3,h4,h5,h6⟩:=h
   exact ⟨_,fun h=>h ∈ fz,p,l,he,h1,fun x hx=>Nat.le_of_ble_eq_true (allP_mem h2 x hx),fun h hh=>isIn_some (allP_mem h3 h hh),h4,hlx_hle h5 h6⟩
 · exact h.elim
def sleG (s s':St) (fz:List Nat) (k:Nat) (τ:List (Nat × Nat)):Prop :=
 allP (fun x:Nat × Nat=>Nat.ble k x.1=true) τ∧Nat.ble k s'.nx=true∧allP (isIn s.h) fz∧sle s.h (fun h=>h ∈ fz) τ s'.nx s.t s'.t∧nodN (nms τ s'.h)=true∧hlx s.h fz τ s'.nx s'.h (nms τ s'.h)
theorem SLe.auto {c:Ctx} {s s':St} {k:Nat} (hk:c.k0=k) (fz:List Nat) (h:sleG s s' fz k (colH k s.h s'.h (colT k s.t s'.t))):SLe c s s':=by
 obtain ⟨h1,h2,h3,h4,h5,h6⟩:=h
 exact SLe.mk _ (fun h=>h ∈ fz) (fun x hx=>hk ▸ Nat.le_of_ble_eq_true (allP_mem h1 x hx)) (hk ▸ Nat.le_of_ble_eq_true h2) (fun h hh=>isIn_some (allP_mem h3 h hh)) h4 (hlx_hle h5 h6)
attribute [go_sem] colC colL colA colAs colV colO colH colS colT nms nodN hlo hlx finG finO sleG
@[go_sem] theorem nblt (a b:Nat):Nat.blt a b=decide (a < b):=by
 show Nat.ble (a+1) b=_
 rw [nble];rfl
theorem aL {α:Type} [LT α] {a b:α} {q:Prop} (h1:a < b) (h2:a < b→q):a < b∧q:=⟨h1,h2 h1⟩
theorem aE {α:Type} [LE α] {a b:α} {q:Prop} (h1:a≤b) (h2:a≤b→q):a≤b∧q:=⟨h1,h2 h1⟩
theorem aC {α β:Type} [LE α] [LT β] {a b:α} {c d:β} {q:Prop} (h1:a≤b∧c < d) (h2:(a≤b∧c < d)→q):(a≤b∧c < d)∧q:=⟨h1,h2 h1⟩
theorem nT (b:Bool):((!b)=true)=(b=false):=Bool.not_eq_true' b
theorem nF (b:Bool):((!b)=false)=(b=true):=Bool.not_eq_false' b
theorem n1:(!true)=false:=rfl
theorem n0:(!false)=true:=rfl
theorem dT {p:Prop} [Decidable p]:(decide p=true)=p:=decide_eq_true_eq
theorem dF {p:Prop} [Decidable p]:(decide p=false) ↔ ¬ p:=decide_eq_false_iff_not
theorem eT {α:Type} [BEq α] [LawfulBEq α] {a b:α}:(a == b)=true ↔ a=b:=beq_iff_eq
theorem eF {α:Type} [BEq α] [LawfulBEq α] {a b:α}:(a == b)=false ↔ a ≠ b:=beq_eq_false_iff_ne
attribute [go_sem] Nat.add_assoc Int.toNat_natCast beq_self_eq_true decide_true decide_false Nat.le_refl eq_self
theorem dA{p:Prop}{i:Decidable p}:(decide p=true)=p:=decide_eq_true_eq
theorem dB{p:Prop}{i:Decidable p}:decide p=false↔¬p:=decide_eq_false_iff_not
theorem dC{p q:Prop}{i:Decidable p}{j:Decidable q}:decide p=decide q↔(p↔q):=decide_eq_decide
end Go.Hw
