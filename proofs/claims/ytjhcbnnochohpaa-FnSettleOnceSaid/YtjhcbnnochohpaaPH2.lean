/- What is proved here: parts of the walk of the law and of its plain side; no condition but those that each theorem states. -/
import Derived.Test.YtjhcbnnochohpaaPH1
import Derived.Test.YtjhcbnnochohpaaProg
import Derived.MapKept
import Derived.LoopN
import Derived.RangeFuncRecord
set_option linter.all false
set_option maxRecDepth 100000
set_option maxHeartbeats 16000000
namespace Go.Hw
def nilOk:A1→Bool
 | .c (.ptr _ _ _ _)=>true
 | .c (.tp _ _ _)=>true
 | .c (.t (.ptr _ _))=>true
 | .c (.fp _ _ _ _ _ _)=>true
 | .c (.t (.v (.func (.func _) _ _)))=>true
 | _=>false
def aopA (ti:Nat→Option TI) (s:St):Op→Option (Prop × AV × Heap × Nat)
 | .move x=>match evO s x with
   | some v=>some (True,v,s.h,s.nx)
   | none=>none
 | .assign x=>match evO s x with
   | some v=>some (True,v,s.h,s.nx)
   | none=>none
 | .pick c a b=>match evO s c,evO s a,evO s b with
   | some (.o (.c (.t (.v (.bool q))))),some u,some v=>some (True,if q=true then u else v,s.h,s.nx)
   | _,_,_=>none
 | .alloc t=>match ti t with
   | some x=>match zcells x with
     | some l=>some (True,.o (.c (.ptr s.nx 0 0 0)),(s.nx,.box l) ::s.h,s.nx+1)
     | none=>none
   | none=>none
 | .box _ x=>match evO s x with
   | some (.o v)=>some (True,.o (.c (.ptr s.nx 0 0 0)),(s.nx,.box v.cells) ::s.h,s.nx+1)
   | _=>none
 | .build t parts=>match partsA s parts.toList with
   | some l=>match buildA ti t l with
     | some v=>some (True,.o v,s.h,s.nx)
     | none=>none
   | none=>none
 | .buildSlice t n parts=>match partsA s parts.toList with
   | some l=>match litA ti t n l with
     | some (wd,r)=>some (True,.o (.c (.sl s.nx wd 0 n)),(s.nx,litObj wd n r) ::s.h,s.nx+1)
     | none=>none
   | none=>none
 | .load t x=>match ti t,evO s x with
   | some tx,some (.o a)=>match loadA tx s.h a with
     | some (p,v)=>some (p,.o v,s.h,s.nx)
     | none=>none
   | _,_=>none
 | .store t a x=>match ti t,evO s a,evO s x with
   | some tx,some (.o u),some (.o v)=>match storeA tx s.h v u with
     | some (p,h)=>some (p,.tup [],h,s.nx)
     | none=>none
   | _,_,_=>none
 | .nilCheck x=>match evO s x with
   | some (.o v)=>if nilOk v=true then some (True,.o v,s.h,s.nx) else none
   | _=>none
 | .binOp op t x y _=>match evO s x,evO s y with
   | some (.o a),some (.o b)=>match cmpA ti op t a b with
     | some (p,r)=>some (p,scal r,s.h,s.nx)
     | none=>none
   | _,_=>none
 | .unOp .not _ x=>match evO s x with
   | some (.o (.c (.t (.v (.bool q)))))=>some (True,scal (.bool (!q)),s.h,s.nx)
   | _=>none
 | .unOp .neg _ x=>match evO s x with
   | some (.o (.c (.t (.v (.int k n)))))=>some (Fits k (-n),scal (.int k (-n)),s.h,s.nx)
   | _=>none
 | .convert src dst x=>match ti src,ti dst,evO s x with
   | some a,some b,some (.o (.c (.t (.v (.int _ n)))))=>match a.k,b.k with
     | .int _,.int k=>some (Fits k n,scal (.int k n),s.h,s.nx)
     | _,_=>none
   | _,_,_=>none
 | .fieldAddr t x f=>match evO s x with
   | some (.o a)=>match fieldA ti t f a with
     | some r=>some (True,.o r,s.h,s.nx)
     | none=>none
   | _=>none
 | .field t x f=>match evO s x with
   | some (.o a)=>match fldA ti t f a with
     | some r=>some (True,.o r,s.h,s.nx)
     | none=>none
   | _=>none
 | .indexAddr t x i=>match evO s x,evO s i with
   | some (.o a),some (.o b)=>match indexA ti t a b with
     | some (p,r)=>some (p,.o r,s.h,s.nx)
     | none=>none
   | _,_=>none
 | .slice t x lo hi none=>match evO s x with
   | some (.o a)=>match sliceA ti t s a lo hi with
     | some (p,r)=>some (p,.o r,s.h,s.nx)
     | none=>none
   | _=>none
 | .makeSlice t l c=>match evO s l,evO s c with
   | some (.o a),some (.o b)=>match makeA ti t a b with
     | some (p,wd,n,f)=>some (p,.o (.c (.sl s.nx wd 0 n)),(s.nx,.row wd n f) ::s.h,s.nx+1)
     | none=>none
   | _,_=>none
 | .extract x i=>match evO s x with
   | some (.tup l)=>match l[i]? with
     | some v=>some (True,.o v,s.h,s.nx)
     | none=>none
   | _=>none
 | .call ⟨.builtin .len,⟨[x]⟩,⟨[t]⟩⟩=>match evO s x with
   | some (.o a)=>match lenA ti t a with
     | some r=>some (True,scal r,s.h,s.nx)
     | none=>none
   | _=>none
 | .call ⟨.builtin .append,⟨[x,y]⟩,⟨[t,xt]⟩⟩=>match evO s x,evO s y with
   | some (.o a),some (.o b)=>match appendA ti s.h t xt a b with
     | some (p,wd,n,f,h)=>some (p,.o (.c (.sl s.nx wd 0 n)),(s.nx,.row wd n f) ::h,s.nx+1)
     | none=>none
   | _,_=>none
 | .call ⟨.builtin .copy,⟨[x,y]⟩,⟨[t,_]⟩⟩=>match evO s x,evO s y with
   | some (.o a),some (.o b)=>match copyA ti s.h t a b with
     | some (p,r,h)=>some (p,scal r,h,s.nx)
     | none=>none
   | _,_=>none
 | _=>none
def Ran (P:Program) (a:Act) (o:Oper) (w:World) (y:Value) (w':World):Prop :=
 (execOp a.eval o).run P w=.ok (.value y) w' ∨ ((execOp a.eval o).run P w=.ok .skip w'∧y=undef)
theorem ran_v {P:Program} {a:Act} {o:Oper} {w w':World} {y:Value} {m:Sem Value} (h:execOp a.eval o=(do pure (.value (← m)))) (hm:m.run P w=.ok y w'):Ran P a o w y w':=by
 left;rw [h];simp [hm]
set_option maxHeartbeats 1000000 in
theorem aopA_sound {P:Program} {ti:Nat→Option TI} (hT:TOk P ti) {c:Ctx} {s:St} {a:Act} {w:World} {A:Nat→Prop} {ρ:Rho} (hr:Rep c s a w A ρ) {o:Oper} {p:Prop} {v:AV} {h':Heap} {nx':Nat}
   (he:aopA ti s o.op=some (p,v,h',nx')) (hp:p) :
   ∃ y w' ρ',Ran P a o w y w'∧Rep c { s with h:=h',nx:=nx' } a w' A ρ'∧v.At w' A ρ' y:=by
 obtain ⟨dst,op,ty,pos,aft,grd⟩:=o
 dsimp only at he
 cases op with
 | move x =>
   simp only [aopA] at he
   split at he
   · rename_i u hu
     simp only [Option.some.injEq,Prod.mk.injEq] at he;obtain ⟨rfl,rfl,rfl,rfl⟩:=he
     exact ⟨a.eval x,w,ρ,.inl rfl,hr,evO_sound hr hu⟩
   · cases he
 | assign x =>
   simp only [aopA] at he
   split at he
   · rename_i u hu
     simp only [Option.some.injEq,Prod.mk.injEq] at he;obtain ⟨rfl,rfl,rfl,rfl⟩:=he
     exact ⟨a.eval x,w,ρ,.inl rfl,hr,evO_sound hr hu⟩
   · cases he
 | pick cc x y =>
   simp only [aopA] at he
   split at he
   · rename_i q u v' hc hu hv
     simp only [Option.some.injEq,Prod.mk.injEq] at he;obtain ⟨rfl,rfl,rfl,rfl⟩:=he
     have h1:a.eval cc=.bool q:=(evO_sound hr hc).1
     refine ⟨if q=true then a.eval x else a.eval y,w,ρ,.inl ?_,hr,?_⟩
     · simp [execOp,h1,asBool]
     · cases q<;>simp
       · exact evO_sound hr hv
       · exact evO_sound hr hu
   · cases he
 | alloc t =>
   simp only [aopA] at he
   split at he
   · rename_i x hx
     split at he
     · rename_i l hl
       simp only [Option.some.injEq,Prod.mk.injEq] at he;obtain ⟨rfl,rfl,rfl,rfl⟩:=he
       obtain ⟨z,hz1,hz2⟩:=run_zero (hT _ _ hx) w
       have hzl:All2 (Cell.At w A ρ) l z.cells.toList:=by rw [hz1];exact zcells_sound hl
       refine ⟨_,_,_,ran_v (m:=Instr.alloc t true (.tuple #[])) rfl ?_,hr.new_box t hzl,w.heap.size,_,ext_self,rfl⟩
       simp [Instr.alloc,hz2,newVar,newRow]
     · cases he
   · cases he
 | box t x =>
   simp only [aopA] at he
   split at he
   · rename_i u hu
     simp only [Option.some.injEq,Prod.mk.injEq] at he;obtain ⟨rfl,rfl,rfl,rfl⟩:=he
     have h1:u.At w A ρ (a.eval x):=evO_sound hr hu
     refine ⟨_,_,_,ran_v (m:=Instr.box t (a.eval x)) rfl ?_,hr.new_box t (A1.At.cells h1),w.heap.size,_,ext_self,rfl⟩
     simp [Instr.box,newVar,newRow]
   · cases he
 | build t parts =>
   simp only [aopA] at he
   split at he
   · rename_i l hl
     split at he
     · rename_i r hr2
       simp only [Option.some.injEq,Prod.mk.injEq] at he;obtain ⟨rfl,rfl,rfl,rfl⟩:=he
       have h1:=partsA_sound hr hl
       obtain ⟨y,hy1,hy2⟩:=buildA_sound hT (vals:=parts.map fun (i,x)=>(i,a.eval x)) (by simpa using h1) hr2
       exact ⟨y,w,ρ,ran_v (m:=Instr.build t (parts.map fun (i,x)=>(i,a.eval x))) rfl hy1,hr,hy2⟩
     · cases he
   · cases he
 | buildSlice t n parts =>
   simp only [aopA] at he
   split at he
   · rename_i l hl
     split at he
     · rename_i wd r hr2
       simp only [Option.some.injEq,Prod.mk.injEq] at he;obtain ⟨rfl,rfl,rfl,rfl⟩:=he
       have h1:=partsA_sound hr hl
       obtain ⟨y,w',ρ',hy1,hy2,hy3⟩:=litA_sound hT hr (vals:=parts.map fun (i,x)=>(i,a.eval x)) (by simpa using h1) hr2
       exact ⟨y,w',ρ',ran_v (m:=Instr.buildSlice t n (parts.map fun (i,x)=>(i,a.eval x))) rfl hy1,hy2,hy3⟩
     · cases he
   · cases he
 | load t x =>
   simp only [aopA] at he
   split at he
   · rename_i tx u htx hu
     split at he
     · rename_i q v' hl
       simp only [Option.some.injEq,Prod.mk.injEq] at he;obtain ⟨rfl,rfl,rfl,rfl⟩:=he
       have h1:u.At w A ρ (a.eval x):=evO_sound hr hu
       obtain ⟨y,hy1,hy2⟩:=loadA_sound (hT _ _ htx) hr.heap h1 hl hp
       exact ⟨y,w,ρ,ran_v (m:=Instr.loadAt t (a.eval x)) rfl hy1,hr,hy2⟩
     · cases he
   · cases he
 | store t x y =>
   simp only [aopA] at he
   split at he
   · rename_i tx u v' htx hu hv
     split at he
     · rename_i q hh hl
       simp only [Option.some.injEq,Prod.mk.injEq] at he;obtain ⟨rfl,rfl,rfl,rfl⟩:=he
       have h1:u.At w A ρ (a.eval x):=evO_sound hr hu
       have h2:v'.At w A ρ (a.eval y):=evO_sound hr hv
       obtain ⟨w',hy1,hy2⟩:=storeA_sound (hT _ _ htx) hr h1 h2 hl hp
       refine ⟨undef,w',ρ,.inr ⟨?_,rfl⟩,hy2,#[],rfl,trivial⟩
       simp [execOp,hy1]
     · cases he
   · cases he
 | nilCheck x =>
   simp only [aopA] at he
   split at he
   · rename_i u hu
     split at he
     · rename_i hn
       simp only [Option.some.injEq,Prod.mk.injEq] at he;obtain ⟨rfl,rfl,rfl,rfl⟩:=he
       have h1:u.At w A ρ (a.eval x):=evO_sound hr hu
       refine ⟨a.eval x,w,ρ,.inl ?_,hr,h1⟩
       unfold nilOk at hn
       split at hn
       · obtain ⟨b,m,_,e⟩:=h1;simp [execOp,e]
       · obtain ⟨b,m,e,_⟩:=h1;simp [execOp,e]
       · obtain ⟨b,m,e,_⟩:=h1;simp [execOp,e]
       · rename_i q _ _ _ _ _;obtain ⟨b,m,_,e⟩:=h1;cases q<;>simp [execOp,e]
       · obtain ⟨e,_⟩:=h1;simp [execOp,e]
       · cases hn
     · cases he
   · cases he
 | binOp op t x y yt =>
   simp only [aopA] at he
   split at he
   · rename_i u v' hu hv
     split at he
     · rename_i q r hl
       simp only [Option.some.injEq,Prod.mk.injEq] at he;obtain ⟨rfl,rfl,rfl,rfl⟩:=he
       have h1:u.At w A ρ (a.eval x):=evO_sound hr hu
       have h2:v'.At w A ρ (a.eval y):=evO_sound hr hv
       obtain ⟨hy1,hy2⟩:=cmpA_sound hT (x:=x) (y:=y) h1 h2 hl hp
       exact ⟨r,w,ρ,ran_v (m:=do eqGuard op t x y (a.eval x) (a.eval y);binOp op t (a.eval x) (a.eval y)) rfl (hy1 w),hr,rfl,hy2⟩
     · cases he
   · cases he
 | unOp op t x =>
   cases op with
   | not =>
     simp only [aopA] at he
     split at he
     · rename_i q hu
       simp only [Option.some.injEq,Prod.mk.injEq] at he;obtain ⟨rfl,rfl,rfl,rfl⟩:=he
       have h1:a.eval x=.bool q:=(evO_sound hr hu).1
       exact ⟨.bool (!q),w,ρ,ran_v (m:=Op.unary .not (a.eval x)) rfl (by simp [h1,Op.unary]),hr,rfl,rfl⟩
     · cases he
   | neg =>
     simp only [aopA] at he
     split at he
     · rename_i k n hu
       simp only [Option.some.injEq,Prod.mk.injEq] at he;obtain ⟨rfl,rfl,rfl,rfl⟩:=he
       have h1:a.eval x=.int k n:=(evO_sound hr hu).1
       have h0:k.wrap (0 - n) = -n:=by rw [Int.zero_sub];exact wrap_fits hp
       exact ⟨.int k (-n),w,ρ,ran_v (m:=Op.unary .neg (a.eval x)) rfl (by simp [h1,Op.unary,Op.intArith];simpa using h0),hr,rfl,rfl⟩
     · cases he
   | _=>simp only [aopA] at he;cases he
 | convert src dst' x =>
   simp only [aopA] at he
   split at he
   · rename_i ta tb k n hta htb hu
     split at he
     · rename_i k1 k2 hk1 hk2
       simp only [Option.some.injEq,Prod.mk.injEq] at he;obtain ⟨rfl,rfl,rfl,rfl⟩:=he
       have h1:a.eval x=.int k n:=(evO_sound hr hu).1
       obtain ⟨d1,hd1,hu1⟩:=run_und (hT _ _ hta) w
       obtain ⟨d2,hd2,hu2⟩:=run_und (hT _ _ htb) w
       rw [hk1] at hd1;rw [hk2] at hd2
       cases d1<;>simp only [kindOf,reduceCtorEq] at hd1
       cases d2<;>simp only [kindOf,reduceCtorEq] at hd2
       injection hd2 with hd2;subst hd2
       exact ⟨.int _ n,w,ρ,ran_v (m:=convert src dst' (a.eval x)) rfl (by simp [h1,convert,hu1,hu2,Conv.intToInt,wrap_fits hp]),hr,rfl,rfl⟩
     · cases he
   · cases he
 | fieldAddr t x f =>
   simp only [aopA] at he
   split at he
   · rename_i u hu
     split at he
     · rename_i r hl
       simp only [Option.some.injEq,Prod.mk.injEq] at he;obtain ⟨rfl,rfl,rfl,rfl⟩:=he
       have h1:u.At w A ρ (a.eval x):=evO_sound hr hu
       obtain ⟨y,hy1,hy2⟩:=fieldA_sound hT h1 hl
       exact ⟨y,w,ρ,ran_v (m:=Instr.fieldAt t (a.eval x) f) rfl (hy1 w),hr,hy2⟩
     · cases he
   · cases he
 | field t x f =>
   simp only [aopA] at he
   split at he
   · rename_i u hu
     split at he
     · rename_i r hl
       simp only [Option.some.injEq,Prod.mk.injEq] at he;obtain ⟨rfl,rfl,rfl,rfl⟩:=he
       have h1:u.At w A ρ (a.eval x):=evO_sound hr hu
       obtain ⟨y,hy1,hy2⟩:=fldA_sound hT h1 hl
       exact ⟨y,w,ρ,ran_v (m:=Instr.field t (a.eval x) f) rfl (hy1 w),hr,hy2⟩
     · cases he
   · cases he
 | indexAddr t x i =>
   simp only [aopA] at he
   split at he
   · rename_i u v' hu hv
     split at he
     · rename_i q r hl
       simp only [Option.some.injEq,Prod.mk.injEq] at he;obtain ⟨rfl,rfl,rfl,rfl⟩:=he
       have h1:u.At w A ρ (a.eval x):=evO_sound hr hu
       have h2:v'.At w A ρ (a.eval i):=evO_sound hr hv
       obtain ⟨y,hy1,hy2⟩:=indexA_sound hT h1 h2 hl hp
       exact ⟨y,w,ρ,ran_v (m:=Instr.indexAt t (a.eval x) (a.eval i)) rfl (hy1 w),hr,hy2⟩
     · cases he
   · cases he
 | slice t x lo hi mx =>
   cases mx with
   | none =>
     simp only [aopA] at he
     split at he
     · rename_i u hu
       split at he
       · rename_i q r hl
         simp only [Option.some.injEq,Prod.mk.injEq] at he;obtain ⟨rfl,rfl,rfl,rfl⟩:=he
         have h1:u.At w A ρ (a.eval x):=evO_sound hr hu
         obtain ⟨y,hy1,hy2⟩:=sliceA_sound hT hr h1 hl hp
         exact ⟨y,w,ρ,ran_v (m:=Instr.sliceAt t (a.eval x) (lo.map a.eval) (hi.map a.eval) none) rfl hy1,hr,hy2⟩
       · cases he
     · cases he
   | some mx=>simp only [aopA] at he;cases he
 | makeSlice t l cp =>
   simp only [aopA] at he
   split at he
   · rename_i u v' hu hv
     split at he
     · rename_i q wd n f hl
       simp only [Option.some.injEq,Prod.mk.injEq] at he;obtain ⟨rfl,rfl,rfl,rfl⟩:=he
       have h1:u.At w A ρ (a.eval l):=evO_sound hr hu
       have h2:v'.At w A ρ (a.eval cp):=evO_sound hr hv
       obtain ⟨y,w',ρ',hy1,hy2,hy3⟩:=makeA_sound hT hr h1 h2 hl hp
       exact ⟨y,w',ρ',ran_v (m:=Instr.makeSlice t (a.eval l) (a.eval cp)) rfl hy1,hy2,hy3⟩
     · cases he
   · cases he
 | extract x i =>
   simp only [aopA] at he
   split at he
   · rename_i l hu
     split at he
     · rename_i v' hl
       simp only [Option.some.injEq,Prod.mk.injEq] at he;obtain ⟨rfl,rfl,rfl,rfl⟩:=he
       obtain ⟨vs,e,hall⟩:=evO_sound hr hu
       obtain ⟨z,hz1,hz2⟩:=All2.get hall hl
       have hz1':vs[i]? = some z:=by simpa using hz1
       exact ⟨z,w,ρ,ran_v (m:=Instr.extract (a.eval x) i) rfl (by simp [e,Instr.extract,hz1']),hr,hz2⟩
     · cases he
   · cases he
 | call cl =>
   obtain ⟨cal,⟨args⟩,⟨tys⟩⟩:=cl
   unfold aopA at he
   split at he<;>(try (cases he;done))<;>rename_i hop<;>(try (cases hop;done))
   · simp only [Op.call.injEq,Call.mk.injEq,Callee.builtin.injEq,Array.mk.injEq] at hop
     obtain ⟨rfl,rfl,rfl⟩:=hop
     rename_i x t
     split at he
     · rename_i u hu
       split at he
       · rename_i r hl
         simp only [Option.some.injEq,Prod.mk.injEq] at he;obtain ⟨rfl,rfl,rfl,rfl⟩:=he
         have h1:u.At w A ρ (a.eval x):=evO_sound hr hu
         obtain ⟨hy1,hy2⟩:=lenA_sound (P:=P) hT h1 hl ty
         refine ⟨r,w,ρ,.inl ?_,hr,rfl,hy2⟩
         simp [execOp,resolve,invoke,builtin,hy1]
       · cases he
     · cases he
   · simp only [Op.call.injEq,Call.mk.injEq,Callee.builtin.injEq,Array.mk.injEq] at hop
     obtain ⟨rfl,rfl,rfl⟩:=hop
     rename_i x y t xt
     split at he
     · rename_i u v' hu hv
       split at he
       · rename_i q wd n f h hl
         simp only [Option.some.injEq,Prod.mk.injEq] at he;obtain ⟨rfl,rfl,rfl,rfl⟩:=he
         have h1:u.At w A ρ (a.eval x):=evO_sound hr hu
         have h2:v'.At w A ρ (a.eval y):=evO_sound hr hv
         obtain ⟨z,w',ρ',hy1,hy2,hy3⟩:=appendA_sound (P:=P) hT hr h1 h2 hl hp ty
         refine ⟨z,w',ρ',.inl ?_,hy2,hy3⟩
         simp [execOp,resolve,invoke,builtin,hy1]
       · cases he
     · cases he
   · simp only [Op.call.injEq,Call.mk.injEq,Callee.builtin.injEq,Array.mk.injEq] at hop
     obtain ⟨rfl,rfl,rfl⟩:=hop
     rename_i x y t xt
     split at he
     · rename_i u v' hu hv
       split at he
       · rename_i q r h hl
         simp only [Option.some.injEq,Prod.mk.injEq] at he;obtain ⟨rfl,rfl,rfl,rfl⟩:=he
         have h1:u.At w A ρ (a.eval x):=evO_sound hr hu
         have h2:v'.At w A ρ (a.eval y):=evO_sound hr hv
         obtain ⟨w',hy1,hy2,hy3⟩:=copyA_sound (P:=P) (xt:=xt) hT hr h1 h2 hl hp ty
         refine ⟨r,w',ρ,.inl ?_,hy2,rfl,hy3⟩
         simp [execOp,resolve,invoke,builtin,hy1]
       · cases he
     · cases he
 | _=>simp only [aopA] at he;cases he
end Go.Hw
namespace Go.Hw
def isI64:Value→Bool
 | .int .i64 _=>true
 | _=>false
def intKeys (es:List MapEntry):Bool:=es.all fun e=>isI64 e.key && isI64 e.val
def fdI (k:Int):List MapEntry→Nat→Option (Nat × Value)
 | [],_=>none
 | e ::r,i=>match e.key with
   | .int _ a=>bif decide (k=a) then some (i,e.val) else fdI k r (i+1)
   | _=>none
def lkI (k:Int) (es:List MapEntry):Int:=match fdI k es 0 with
 | some (_,.int _ n)=>n
 | _=>0
def updM (es:Array MapEntry) (clock:Nat) (k v:Int):Obj:=match fdI k es.toList 0 with
 | some (i,_)=>.map (es.modify i fun e=>{ e with key:=.int .i64 k,val:=.int .i64 v }) clock
 | none=>.map (es.push { key:=.int .i64 k,val:=.int .i64 v,born:=clock }) (clock+1)
theorem isI64_int {v:Value} (h:isI64 v=true):∃ n,v=.int .i64 n:=by
 unfold isI64 at h
 split at h
 · exact ⟨_,rfl⟩
 · cases h
theorem findNow_int {kk:IntKind} {k:Int}:∀ {es:List MapEntry} {i:Nat},intKeys es=true→Instr.findNow (.int kk) (.int .i64 k) es i=some (fdI k es i)
 | [],_,_=>rfl
 | e ::r,i,h=>by
   simp only [intKeys,List.all_cons,Bool.and_eq_true] at h
   obtain ⟨⟨h1,h2⟩,h3⟩:=h
   obtain ⟨a,ha⟩:=isI64_int h1
   have ih:=findNow_int (kk:=kk) (k:=k) (es:=r) (i:=i+1) h3
   simp only [Instr.findNow,fdI,ha,Instr.sameNow,if_true]
   by_cases hk:k=a
   · simp [hk]
   · have:(k == a)=false:=by simpa using hk
     simp [hk,ih,this]
theorem fdI_val {k:Int}:∀ {es:List MapEntry} {i j:Nat} {v:Value},intKeys es=true→fdI k es i=some (j,v)→∃ m e,v=.int .i64 m∧i≤j∧es[j - i]? = some e∧e.key=.int .i64 k
 | [],_,_,_,_,h=>by simp [fdI] at h
 | e ::r,i,j,v,h,hf=>by
   simp only [intKeys,List.all_cons,Bool.and_eq_true] at h
   obtain ⟨⟨h1,h2⟩,h3⟩:=h
   obtain ⟨a,ha⟩:=isI64_int h1
   obtain ⟨b,hb⟩:=isI64_int h2
   simp only [fdI,ha] at hf
   by_cases hk:k=a
   · simp [hk] at hf
     obtain ⟨rfl,rfl⟩:=hf
     exact ⟨b,e,hb,Nat.le_refl _,by simp,by rw [ha,hk]⟩
   · simp [hk] at hf
     obtain ⟨m,e',e1,e2,e3,e4⟩:=fdI_val (es:=r) (i:=i+1) h3 hf
     refine ⟨m,e',e1,by omega,?_,e4⟩
     rw [show j - i=(j - (i+1))+1 from by omega,List.getElem?_cons_succ];exact e3
def xorI (a b:Int):Int:=IntKind.i64.wrap ((BitVec.ofInt 64 a ^^^ BitVec.ofInt 64 b).toNat:Nat)
def intK:TK→Bool
 | .int .i64=>true
 | _=>false
def aopB (ti:Nat→Option TI) (s:St):Op→Option (Prop × AV × Heap × Nat)
 | .makeFunc (.func f) ⟨[x]⟩ ⟨[]⟩=>match evO s x with
   | some (.o (.c (.ptr h wd i j)))=>some (True,.o (.c (.fp true f h wd i j)),s.h,s.nx)
   | _=>none
 | .makeFunc (.func f) ⟨[]⟩ ⟨[x]⟩=>match evO s x with
   | some (.o (.c (.ptr h wd i j)))=>some (True,.o (.c (.fp false f h wd i j)),s.h,s.nx)
   | _=>none
 | .makeFunc (.func f) ⟨[]⟩ ⟨[]⟩=>some (True,.o (.c (.t (.v (.func (.func f) #[] #[])))),s.h,s.nx)
 | .makeMap t (some x)=>match ti t,evO s x with
   | some tx,some (.o (.c (.t (.v (.int _ _)))))=>match tx.k with
     | .mp _ _=>some (True,.o (.c (.mp s.nx)),(s.nx,.raw (.map #[] 0)) ::s.h,s.nx+1)
     | _=>none
   | _,_=>none
 | .lookup t x i false=>match ti t,evO s x,evO s i with
   | some tx,some (.o (.c (.mp h))),some (.o (.c (.t (.v (.int .i64 k)))))=>match tx.k,look h s.h with
     | .mp ke el,some (.raw (.map es cl))=>match ti ke,ti el with
       | some tk,some _=>bif intK tk.k then some (intKeys es.toList=true∧(fdI k es.toList 0).isSome=true,.o (.c (.t (.v (.int .i64 (lkI k es.toList))))),s.h,s.nx) else none
       | _,_=>none
     | _,_=>none
   | _,_,_=>none
 | .mapUpdate t x i y=>match ti t,evO s x,evO s i,evO s y with
   | some tx,some (.o (.c (.mp h))),some (.o (.c (.t (.v (.int .i64 k))))),some (.o (.c (.t (.v (.int .i64 n)))))=>match tx.k,look h s.h with
     | .mp ke el,some (.raw (.map es cl))=>match ti ke with
       | some tk=>bif intK tk.k then some (intKeys es.toList=true,.tup [],upd h (.raw (updM es cl k n)) s.h,s.nx) else none
       | _=>none
     | _,_=>none
   | _,_,_,_=>none
 | .makeInterface t x=>match ti t,evO s x with
   | some tx,some (.o (.g []))=>match tx.k with
     | .st _=>some (True,.o (.c (.t (.v (.iface t (.agg #[]))))),s.h,s.nx)
     | _=>none
   | _,_=>none
 | .typeAssert x xt t true=>match ti t,evO s x with
   | some tx,some (.o (.c (.t (.v (.iface d (.agg ⟨[]⟩))))))=>match tx.k,tx.zero with
     | .st _,[]=>some (True,.tup [.g [],.c (.t (.v (.bool (decide (d=t)))))],s.h,s.nx)
     | _,_=>none
   | _,_=>none
 | .convert src dst x=>match ti src,ti dst,evO s x with
   | some ta,some tb,some (.o q)=>match ta.k,tb.k,q with
     | .sli e,.str,.c (.sl h 1 o 1)=>match ti e,look h s.h with
       | some te,some (.row 1 m f)=>match te.k,f o 0 with
         | .int .u8,.t (.v (.int .u8 n))=>some (o < m,.o (.c (.t (.v (.string ⟨#[UInt8.ofNat n.toNat]⟩)))),s.h,s.nx)
         | _,_=>none
       | _,_=>none
     | _,_,_=>none
   | _,_,_=>none
 | .index t x i=>match ti t,evO s x,evO s i with
   | some tx,some (.o (.c (.t (.v (.string b))))),some (.o (.c (.t (.v (.int _ n)))))=>match tx.k with
     | .str=>some (0≤n∧n < b.size,.o (.c (.t (.v (.int .u8 (b.data.toList.getD n.toNat 0).toNat)))),s.h,s.nx)
     | _=>none
   | some tx,some (.o (.g l)),some (.o (.c (.t (.v (.int _ n)))))=>match tx.k with
     | .arr len e=>match ti e with
       | some ex=>match partA ex l (n.toNat * ex.size) with
         | some r=>some (0≤n∧n < len,.o r,s.h,s.nx)
         | none=>none
       | none=>none
     | _=>none
   | _,_,_=>none
 | .binOp .xor t x y _=>match evO s x,evO s y with
   | some (.o (.c (.t (.v (.int .i64 a))))),some (.o (.c (.t (.v (.int .i64 b)))))=>some (True,scal (.int .i64 (xorI a b)),s.h,s.nx)
   | _,_=>none
 | .call ⟨.builtin .max,⟨[x,y]⟩,_⟩=>match evO s x,evO s y with
   | some (.o (.c (.t (.v (.int .i64 a))))),some (.o (.c (.t (.v (.int .i64 b)))))=>some (True,scal (.int .i64 (if a < b then b else a)),s.h,s.nx)
   | _,_=>none
 | .call ⟨.builtin .min,⟨[x,y]⟩,_⟩=>match evO s x,evO s y with
   | some (.o (.c (.t (.v (.int .i64 a))))),some (.o (.c (.t (.v (.int .i64 b)))))=>some (True,scal (.int .i64 (if b < a then b else a)),s.h,s.nx)
   | _,_=>none
 | _=>none
theorem upd_raw {c:Ctx} {s:St} {a:Act} {w:World} {A:Nat→Prop} {ρ:Rho} (hr:Rep c s a w A ρ) {h:Nat} {o o':Obj} {b m:Nat} (hl:look h s.h=some (.raw o)) (hk:ρ h=some (b,m)) (ho:∀ cs e fr,o' ≠ .cells cs e fr) :
   Rep c { s with h:=upd h (.raw o') s.h } a { w with heap:=w.heap.setIfInBounds b o' } A ρ:=by
 obtain ⟨b1,m1,e1,e2,_,e4⟩:=hr.heap.objs _ (look_mem hl) trivial
 rw [hk] at e1;injection e1 with e1;injection e1 with e1 e3;subst e1
 refine hr.write hl trivial hk rfl rfl rfl (by simp) (fun b' hb'=>?_) ⟨?_,ho⟩
 · simp [Array.getElem?_setIfInBounds,Ne.symm hb']
 · simp [Array.getElem?_setIfInBounds,e4]
theorem undef_at' {w:World} {A:Nat→Prop} {ρ:Rho}:(AV.tup []).At w A ρ undef:=⟨#[],rfl,trivial⟩
theorem cnv_run {P:Program} {ti:Nat→Option TI} (hT:TOk P ti) {src dst e:Nat} {ta tb te:TI} (hta:ti src=some ta) (htb:ti dst=some tb) (hte:ti e=some te) (hk1:ta.k=.sli e) (hk2:tb.k=.str) (hk3:te.k=.int .u8)
   {w:World} {b o cap:Nat} {n:Int} (hcell:w.cell? ⟨b,o * 1,none⟩=some (.int .u8 n)):(convert src dst (.slice (some ⟨b,o * 1,none⟩) 1 cap)).run P w=.ok (.string ⟨#[UInt8.ofNat n.toNat]⟩) w:=by
 obtain ⟨d1,hd1,hu1⟩:=run_und (hT _ _ hta) w
 rw [hk1] at hd1
 cases d1<;>simp only [kindOf,reduceCtorEq] at hd1
 rename_i e'
 injection hd1 with hd1;subst hd1
 obtain ⟨d2,hd2,hu2⟩:=run_und (hT _ _ htb) w
 rw [hk2] at hd2
 cases d2<;>simp only [kindOf,reduceCtorEq] at hd2
 obtain ⟨d3,hd3,hu3⟩:=run_und (hT _ _ hte) w
 rw [hk3] at hd3
 cases d3<;>simp only [kindOf,reduceCtorEq] at hd3
 injection hd3 with hd3;subst hd3
 have hld:=run_loadCells_list (P:=P) (w:=w) ⟨b,o * 1,none⟩ [.int .u8 n] (fun j v hj=>by
   match j with
   | 0=>simp at hj;subst hj;rw [add_lit,Nat.add_zero];exact hcell
   | j+1=>simp at hj)
 simp only [convert,Sem.run_bind,hu1,hu2,hu3,Result.andThen_ok,Conv.bytesToString]
 have hld2:Sem.run P (loadCells ⟨b,o * 1,none⟩ 1) w=.ok #[.int .u8 n] w:=hld
 rw [hld2]
 simp
 rfl
theorem cnv_at {w:World} {A:Nat→Prop} {ρ:Rho} {H:Heap} (hH:HeapAt w A ρ H) {h m o:Nat} {f:Nat→Nat→Cell} {n:Int} {y:Value} (hl:look h H=some (.row 1 m f)) (hp:o < m) (hf:f o 0=.t (.v (.int .u8 n))) (hy:(Cell.sl h 1 o 1).At w A ρ y) :
   ∃ b cap,y=.slice (some ⟨b,o * 1,none⟩) 1 cap∧w.cell? ⟨b,o * 1,none⟩=some (.int .u8 n)∧blkOf ρ H b:=by
 have hre:(AObj.row 1 m f).real:=by show m ≠ 0;omega
 obtain ⟨b,mm,g1,g2,_,_⟩:=hH.objs _ (look_mem hl) hre
 rcases hy with ⟨h0,_⟩|⟨_,b',m',cap,g3,g4,g5⟩
 · cases h0
 · rw [g1] at g3;injection g3 with g3;injection g3 with e1 e2;subst e1;subst e2
   obtain ⟨cs,ee,c1,c2,c3,c4⟩:=g2
   obtain ⟨z,z1,z2⟩:=c4 o hp 0 (by omega)
   rw [hf] at z2
   obtain ⟨rfl,_⟩:=z2
   exact ⟨b,cap,g4,by unfold World.cell?;rw [c1];simpa using z1,_,look_mem hl,hre,_,g1⟩
theorem aopB_sound {P:Program} {ti:Nat→Option TI} (hT:TOk P ti) {c:Ctx} {s:St} {a:Act} {w:World} {A:Nat→Prop} {ρ:Rho} (hr:Rep c s a w A ρ) {o:Oper} {p:Prop} {v:AV} {h':Heap} {nx':Nat}
   (he:aopB ti s o.op=some (p,v,h',nx')) (hp:p) :
   ∃ y w' ρ',Ran P a o w y w'∧Rep c { s with h:=h',nx:=nx' } a w' A ρ'∧v.At w' A ρ' y:=by
 obtain ⟨dst,op,ty,pos,aft,grd⟩:=o
 dsimp only at he
 unfold aopB at he
 split at he
 · -- makeFunc
   rename_i f x
   split at he
   · rename_i h wd i j hx
     simp only [Option.some.injEq,Prod.mk.injEq] at he;obtain ⟨rfl,rfl,rfl,rfl⟩:=he
     obtain ⟨b,m,h1,h2⟩:=evO_sound hr hx
     refine ⟨.func (.func f) #[.pointer (some ⟨b,i * wd+j,none⟩)] #[],_,_,ran_v (m:=Instr.makeFunc (.func f) #[a.eval x] #[]) (by simp [execOp]) ?_,hr,b,m,h1,rfl⟩
     rw [h2];rfl
   · cases he
 · -- makeFunc
   rename_i f x
   split at he
   · rename_i h wd i j hx
     simp only [Option.some.injEq,Prod.mk.injEq] at he;obtain ⟨rfl,rfl,rfl,rfl⟩:=he
     obtain ⟨b,m,h1,h2⟩:=evO_sound hr hx
     refine ⟨.func (.func f) #[] #[.pointer (some ⟨b,i * wd+j,none⟩)],_,_,ran_v (m:=Instr.makeFunc (.func f) #[] #[a.eval x]) (by simp [execOp]) ?_,hr,b,m,h1,rfl⟩
     rw [h2];rfl
   · cases he
 · -- makeFunc
   simp only [Option.some.injEq,Prod.mk.injEq] at he;obtain ⟨rfl,rfl,rfl,rfl⟩:=he
   exact ⟨_,_,_,ran_v (m:=Instr.makeFunc (.func _) #[] #[]) (by simp [execOp]) rfl,hr,rfl,rfl⟩
 · -- makeMap
   rename_i t x
   split at he
   · rename_i tx k n htx hx
     split at he
     · rename_i ke el hk
       simp only [Option.some.injEq,Prod.mk.injEq] at he;obtain ⟨rfl,rfl,rfl,rfl⟩:=he
       obtain ⟨d,hd,hu⟩:=run_und (hT _ _ htx) w
       rw [hk] at hd
       cases d<;>simp only [kindOf,reduceCtorEq] at hd
       have h1:a.eval x=.int k n:=(evO_sound hr hx).1
       refine ⟨.map (some w.heap.size),_,_,ran_v (m:=Instr.makeMap t (some (a.eval x))) rfl ?_,hr.alloc (.map #[] 0) (.raw (.map #[] 0)) 0 ⟨by simp,by simp⟩,w.heap.size,0,ext_self,rfl⟩
       simp [Instr.makeMap,hu,h1,asInt,asIntOf]
     · cases he
   · cases he
 · -- lookup
   rename_i t x i
   split at he
   · rename_i tx h k htx hx hi
     split at he
     · rename_i ke el es cl hk hl
       split at he
       · rename_i tk te htk hte
         cases hb:intK tk.k with
         | false=>simp [hb] at he
         | true =>
           simp only [hb,cond_true,Option.some.injEq,Prod.mk.injEq] at he;obtain ⟨rfl,rfl,rfl,rfl⟩:=he
           obtain ⟨hp,hsome⟩:=hp
           obtain ⟨d,hd,hu⟩:=run_und (hT _ _ htx) w
           rw [hk] at hd
           cases d<;>simp only [kindOf,reduceCtorEq] at hd
           rename_i kt et
           injection hd with g1 g2
           subst g1;subst g2
           obtain ⟨dk,huP,hdk⟩:=(hT _ _ htk).und
           obtain ⟨kk,rfl⟩:∃ kk,dk=.int kk:=by
             rw [← hdk] at hb
             cases dk<;>simp [kindOf,intK] at hb ⊢
           have huk:=run_underlying huP w
           obtain rfl:kk=.i64:=by
             rw [← hdk] at hb
             cases kk<;>simp [kindOf,intK] at hb ⊢
           obtain ⟨b,m,hkb,h1⟩:=evO_sound hr hx
           have h2:a.eval i=.int .i64 k:=(evO_sound hr hi).1
           obtain ⟨b1,m1,e1,⟨e2,_⟩,_,_⟩:=hr.heap.objs _ (look_mem hl) trivial
           rw [hkb] at e1;injection e1 with e1;injection e1 with e1 e3;subst e1
           refine ⟨.int .i64 (lkI k es.toList),w,ρ,ran_v (m:=Instr.lookup t (a.eval x) (a.eval i) false) rfl ?_,hr,rfl,rfl⟩
           have hck:=MapKept.run_checkKey (w:=w) (k:=.int .i64 k) huP rfl es.isEmpty 9999
           have hfn:=findNow_int (kk:=.i64) (k:=k) (i:=0) hp
           have hgo:=MapKept.run_getObj_map (P:=P) e2
           obtain ⟨⟨j,v⟩,hf⟩:=Option.isSome_iff_exists.1 hsome
           obtain ⟨mv,_,rfl,_⟩:=fdI_val hp hf
           have hfk:(Instr.findKey kt (.int .i64 k) es.toList).run P w=.ok (some (j,.int .i64 mv)) w:=by
             simp [Instr.findKey,huk,hfn,hf]
           rw [h1,h2]
           simp [Instr.lookup,hu,hgo,hck,hfk,lkI,hf]
       · cases he
     · cases he
   · cases he
 · -- mapUpdate
   rename_i t x i y
   split at he
   · rename_i tx h k n htx hx hi hy
     split at he
     · rename_i ke el es cl hk hl
       split at he
       · rename_i tk htk
         cases hb:intK tk.k with
         | false=>simp [hb] at he
         | true =>
           simp only [hb,cond_true,Option.some.injEq,Prod.mk.injEq] at he;obtain ⟨rfl,rfl,rfl,rfl⟩:=he
           obtain ⟨d,hd,hu⟩:=run_und (hT _ _ htx) w
           rw [hk] at hd
           cases d<;>simp only [kindOf,reduceCtorEq] at hd
           rename_i kt et
           injection hd with g1 g2
           subst g1;subst g2
           obtain ⟨dk,huP,hdk⟩:=(hT _ _ htk).und
           obtain ⟨kk,rfl⟩:∃ kk,dk=.int kk:=by
             rw [← hdk] at hb
             cases dk<;>simp [kindOf,intK] at hb ⊢
           have huk:=run_underlying huP w
           obtain rfl:kk=.i64:=by
             rw [← hdk] at hb
             cases kk<;>simp [kindOf,intK] at hb ⊢
           obtain ⟨b,m,hkb,h1⟩:=evO_sound hr hx
           have h2:a.eval i=.int .i64 k:=(evO_sound hr hi).1
           have h3:a.eval y=.int .i64 n:=(evO_sound hr hy).1
           obtain ⟨b1,m1,e1,⟨e2,_⟩,_,_⟩:=hr.heap.objs _ (look_mem hl) trivial
           rw [hkb] at e1;injection e1 with e1;injection e1 with e1 e3;subst e1
           have hno:∀ cs e fr,updM es cl k n ≠ .cells cs e fr:=by
             intro cs e fr;unfold updM;split<;>simp
           refine ⟨undef,_,ρ,.inr ⟨?_,rfl⟩,upd_raw hr hl hkb hno,undef_at'⟩
           have hck:=MapKept.run_checkKey (w:=w) (k:=.int .i64 k) huP rfl false 9999
           have hfn:=findNow_int (kk:=.i64) (k:=k) (i:=0) hp
           have hgo:=MapKept.run_getObj_map (P:=P) e2
           have hso:=fun o=>MapKept.run_setObj_map (P:=P) o e2
           have hfk:(Instr.findKey kt (.int .i64 k) es.toList).run P w=.ok (fdI k es.toList 0) w:=by
             simp [Instr.findKey,huk,hfn]
           have hm:(Instr.mapUpdate t (a.eval x) (a.eval i) (a.eval y)).run P w=.ok () { w with heap:=w.heap.setIfInBounds b (updM es cl k n) }:=by
             rw [h1,h2,h3]
             cases hf:fdI k es.toList 0 with
             | none =>
               rw [hf] at hfk
               simp [Instr.mapUpdate,hu,hgo,hck,hfk,updM,hf,hso]
             | some r =>
               obtain ⟨j,v⟩:=r
               obtain ⟨mv,e0,rfl,_,he0,hkey⟩:=fdI_val hp hf
               have he0':es[j]? = some e0:=by simpa using he0
               rw [hf] at hfk
               have hks:(Instr.keyThatStays (.int .i64 k) (.int .i64 k)).run P w=.ok (.int .i64 k) w:=by
                 simp [Instr.keyThatStays,Instr.sameBits]
               simp [Instr.mapUpdate,hu,hgo,hck,hfk,updM,hf,hso,he0',hkey,hks]
           simp [execOp,hm]
       · cases he
     · cases he
   · cases he
 · -- makeInterface
   rename_i t x
   split at he
   · rename_i tx htx hx
     split at he
     · rename_i fs hk
       simp only [Option.some.injEq,Prod.mk.injEq] at he;obtain ⟨rfl,rfl,rfl,rfl⟩:=he
       obtain ⟨d,hd,hu⟩:=run_und (hT _ _ htx) w
       rw [hk] at hd
       cases d<;>simp only [kindOf,reduceCtorEq] at hd
       obtain ⟨cs,e,hall⟩:=evO_sound hr hx
       have hcs:cs=#[]:=by
         have:=hall.length;simp at this;exact Array.eq_empty_of_size_eq_zero this.symm
       subst hcs
       refine ⟨.iface t (.agg #[]),w,ρ,ran_v (m:=Instr.makeInterface t (a.eval x)) rfl ?_,hr,rfl,rfl⟩
       simp [Instr.makeInterface,hu,e]
     · cases he
   · cases he
 · -- typeAssert
   rename_i x xt t
   split at he
   · rename_i tx d htx hx
     split at he
     · rename_i fs hk hz
       simp only [Option.some.injEq,Prod.mk.injEq] at he;obtain ⟨rfl,rfl,rfl,rfl⟩:=he
       obtain ⟨dd,hd,hu⟩:=run_und (hT _ _ htx) w
       rw [hk] at hd
       cases dd<;>simp only [kindOf,reduceCtorEq] at hd
       have h1:a.eval x=.iface d (.agg #[]):=(evO_sound hr hx).1
       obtain ⟨z,hz1,hz2⟩:=run_zero (hT _ _ htx) w
       have hz3:z=.agg #[]:=by
         rw [hz] at hz1
         cases z<;>simp [Value.cells] at hz1 ⊢
         exact hz1
       refine ⟨.tuple #[.agg #[],.bool (decide (d=t))],w,ρ,ran_v (m:=Instr.typeAssert (a.eval x) xt t true) rfl ?_,hr,#[.agg #[],.bool (decide (d=t))],rfl,⟨#[],rfl,trivial⟩,⟨rfl,rfl⟩,trivial⟩
       by_cases hdt:d=t
       · simp [Instr.typeAssert,hu,h1,hdt]
       · simp [Instr.typeAssert,hu,h1,hdt,hz2,hz3]
     · cases he
   · cases he
 · -- bytes to text
   rename_i src dst' x
   split at he
   · rename_i ta tb q hta htb hx
     split at he
     · rename_i e h o hk1 hk2
       split at he
       · rename_i te m f hte hl
         split at he
         · rename_i n hk3 hf
           simp only [Option.some.injEq,Prod.mk.injEq] at he;obtain ⟨rfl,rfl,rfl,rfl⟩:=he
           obtain ⟨b,cap,h1,hcell,_⟩:=cnv_at hr.heap hl hp hf (evO_sound hr hx)
           refine ⟨.string ⟨#[UInt8.ofNat n.toNat]⟩,w,ρ,ran_v (m:=convert src dst' (a.eval x)) rfl ?_,hr,rfl,rfl⟩
           rw [h1];exact cnv_run hT hta htb hte hk1 hk2 hk3 hcell
         · cases he
       · cases he
     · cases he
   · cases he
 · -- index
   rename_i t x i
   split at he
   · rename_i tx b k n htx hx hi
     split at he
     · rename_i hk
       simp only [Option.some.injEq,Prod.mk.injEq] at he;obtain ⟨rfl,rfl,rfl,rfl⟩:=he
       obtain ⟨d,hd,hu⟩:=run_und (hT _ _ htx) w
       rw [hk] at hd
       cases d<;>simp only [kindOf,reduceCtorEq] at hd
       have h1:a.eval x=.string b:=(evO_sound hr hx).1
       have h2:a.eval i=.int k n:=(evO_sound hr hi).1
       refine ⟨.int .u8 (b.data.toList.getD n.toNat 0).toNat,w,ρ,ran_v (m:=Instr.index t (a.eval x) (a.eval i)) rfl ?_,hr,rfl,rfl⟩
       rw [h1,h2]
       have hlt:n.toNat < b.size:=by omega
       have hg:b[n.toNat]? = some (b.data.toList.getD n.toNat 0):=by
         rw [getElem?_pos b n.toNat hlt]
         have:n.toNat < b.data.toList.length:=by simpa using hlt
         have hd2:n.toNat < b.data.size:=hlt
         simp [List.getD,this,ByteArray.getElem_eq_getElem_data,Array.getElem?_eq_getElem hd2]
       simp [Instr.index,asIntOf,hu,hp.1,hg]
     · cases he
   · rename_i tx l k n htx hx hi
     split at he
     · rename_i len e hk
       split at he
       · rename_i ex hex
         split at he
         · rename_i r hpart
           simp only [Option.some.injEq,Prod.mk.injEq] at he;obtain ⟨rfl,rfl,rfl,rfl⟩:=he
           obtain ⟨d,hd,hu⟩:=run_und (hT _ _ htx) w
           rw [hk] at hd
           cases d<;>simp only [kindOf,reduceCtorEq] at hd
           rename_i ln et
           injection hd with g1 g2
           subst g1;subst g2
           obtain ⟨cs,e1,hall⟩:=evO_sound hr hx
           have h2:a.eval i=.int k n:=(evO_sound hr hi).1
           obtain ⟨z,hz1,hz2⟩:=part_sound (hT _ _ hex) hall hpart
           have hs:=run_size (hT _ _ hex) w
           refine ⟨z,w,ρ,ran_v (m:=Instr.index t (a.eval x) (a.eval i)) rfl ?_,hr,hz2⟩
           rw [e1,h2]
           simp [Instr.index,asIntOf,hu,hp,hs,hz1]
         · cases he
       · cases he
     · cases he
   · cases he
 · -- xor
   rename_i t x y yt
   split at he
   · rename_i n m hx hy
     simp only [Option.some.injEq,Prod.mk.injEq] at he;obtain ⟨rfl,rfl,rfl,rfl⟩:=he
     have h1:a.eval x=.int .i64 n:=(evO_sound hr hx).1
     have h2:a.eval y=.int .i64 m:=(evO_sound hr hy).1
     refine ⟨.int .i64 (xorI n m),w,ρ,ran_v (m:=do eqGuard .xor t x y (a.eval x) (a.eval y);binOp .xor t (a.eval x) (a.eval y)) rfl ?_,hr,rfl,rfl⟩
     rw [h1,h2]
     simp [eqGuard,binOp,Op.intBits,xorI]
     rfl
   · cases he
 · -- max
   rename_i x y tys
   split at he
   · rename_i n m hx hy
     simp only [Option.some.injEq,Prod.mk.injEq] at he;obtain ⟨rfl,rfl,rfl,rfl⟩:=he
     have h1:a.eval x=.int .i64 n:=(evO_sound hr hx).1
     have h2:a.eval y=.int .i64 m:=(evO_sound hr hy).1
     refine ⟨.int .i64 (if n < m then m else n),w,ρ,.inl ?_,hr,rfl,rfl⟩
     simp [execOp,resolve,invoke,builtin,h1,h2,Builtin.max_,Builtin.max2]
   · cases he
 · -- min
   rename_i x y tys
   split at he
   · rename_i n m hx hy
     simp only [Option.some.injEq,Prod.mk.injEq] at he;obtain ⟨rfl,rfl,rfl,rfl⟩:=he
     have h1:a.eval x=.int .i64 n:=(evO_sound hr hx).1
     have h2:a.eval y=.int .i64 m:=(evO_sound hr hy).1
     refine ⟨.int .i64 (if m < n then m else n),w,ρ,.inl ?_,hr,rfl,rfl⟩
     simp [execOp,resolve,invoke,builtin,h1,h2,Builtin.min_,Builtin.min2]
   · cases he
 · cases he
def aop (ti:Nat→Option TI) (s:St) (o:Op):Option (Prop × AV × Heap × Nat):=match aopB ti s o with
 | some r=>some r
 | none=>aopA ti s o
theorem aop_sound {P:Program} {ti:Nat→Option TI} (hT:TOk P ti) {c:Ctx} {s:St} {a:Act} {w:World} {A:Nat→Prop} {ρ:Rho} (hr:Rep c s a w A ρ) {o:Oper} {p:Prop} {v:AV} {h':Heap} {nx':Nat}
   (he:aop ti s o.op=some (p,v,h',nx')) (hp:p) :
   ∃ y w' ρ',Ran P a o w y w'∧Rep c { s with h:=h',nx:=nx' } a w' A ρ'∧v.At w' A ρ' y:=by
 unfold aop at he
 split at he
 · rename_i r hb
   injection he with he
   subst he
   exact aopB_sound hT hr hb hp
 · exact aopA_sound hT hr he hp
end Go.Hw
namespace Go.Hw
def FnOk (P:Program) (f:FuncId):Prop:=∃ fn,P.funcs[f]? = some fn∧(fn.name == "runtime.NumGoroutine")=false∧fn.body.isNone=false
def CallX {α:Type} (P:Program) (f:FuncId) (args:List A1) (H:Heap) (k:Nat) (p:α→Prop) (res:α→AV) (H':α→Heap) (k':Nat):Prop :=
 FnOk P f∧k≤k'∧∀ (w:World) (A:Nat→Prop) (ρ:Rho) (vs:Array Value),All2 (A1.At w A ρ) args vs.toList→HeapAt w A ρ H→(∀ b,A b→b < w.heap.size)→(∀ h,k≤h→ρ h=none) →
   Calls P f vs w fun e w'=>∃ x v A' ρ',p x∧e=.returned v∧(res x).At w' A' ρ' v∧HeapAt w' A' ρ' (H' x)∧w'.os=w.os∧w'.tape=w.tape∧w'.output=w.output∧w.heap.size≤w'.heap.size ∧
     (∀ b,b < w.heap.size→¬ blkOf ρ H b→w'.heap[b]? = w.heap[b]?) ∧
     (∀ b,A' b→b < w'.heap.size∧(A b ∨ blkOf ρ H b ∨ w.heap.size≤b)) ∧
     (∀ y ∈ H' x,y.2.real→∀ b m,ρ' y.1=some (b,m)→blkOf ρ H b ∨ w.heap.size≤b) ∧
     (∀ h,h < k→ρ' h=ρ h)∧(∀ h,k'≤h→ρ' h=none)
abbrev Call (P:Program) (f:FuncId) (args:List A1) (H:Heap) (k:Nat) (res:AV) (H':Heap) (k':Nat):Prop :=
 CallX (α:=Unit) P f args H k (fun _=>True) (fun _=>res) (fun _=>H') k'
def ACall (P:Program) (f:FuncId) (args:List A1) (s:St) (K:AV→Heap→Nat→Prop):Prop :=
 FnOk P f∧∀ (c:Ctx) (a:Act) (w:World) (A:Nat→Prop) (ρ:Rho) (vs:Array Value),Rep c s a w A ρ→All2 (A1.At w A ρ) args vs.toList →
   Calls P f vs w fun e w'=>∃ y v h nx A' ρ',e=.returned y∧K v h nx∧Rep c { s with h:=h,nx:=nx } a w' A' ρ'∧v.At w' A' ρ' y
def argsA (s:St):List Operand→Option (List A1)
 | []=>some []
 | x ::r=>match evO s x with
   | some (.o v)=>match argsA s r with
     | some l=>some (v ::l)
     | none=>none
   | _=>none
def mth (n:String):List (String × Nat)→Option Nat
 | []=>none
 | (m,f) ::r=>if n=m then some f else mth n r
theorem mth_mem {n:String} {f:Nat}:∀ {l:List (String × Nat)},mth n l=some f→(n,f) ∈ l
 | [],h=>by simp [mth] at h
 | (m,g) ::r,h=>by
   simp only [mth] at h
   split at h
   · rename_i e;injection h with h;subst h;subst e;simp
   · exact List.mem_cons_of_mem _ (mth_mem h)
def callA (ti:Nat→Option TI) (s:St):Op→Option (FuncId × List A1)
 | .call ⟨.value x,⟨args⟩,_⟩=>match evO s x,argsA s args with
   | some (.o (.c (.t (.v (.func (.func f) ⟨[]⟩ ⟨[]⟩))))),some l=>some (f,l)
   | some (.o (.c (.fp q f h wd i j))),some l=>some (f,bif q then .c (.ptr h wd i j) ::l else l++[.c (.ptr h wd i j)])
   | _,_=>none
 | .call ⟨.invoke x n,⟨args⟩,_⟩=>match evO s x,argsA s args with
   | some (.o (.c (.t (.v (.iface d (.agg ⟨[]⟩)))))),some l=>match ti d with
     | some td=>match mth n td.meth with
       | some f=>some (f,.g [] ::l)
       | none=>none
     | none=>none
   | _,_=>none
 | _=>none
theorem argsA_sound {c:Ctx} {s:St} {a:Act} {w:World} {A:Nat→Prop} {ρ:Rho} (hr:Rep c s a w A ρ):∀ {l:List Operand} {r:List A1},argsA s l=some r→All2 (A1.At w A ρ) r (l.map a.eval)
 | [],r,h=>by simp [argsA] at h;subst h;trivial
 | x ::l,r,h=>by
   simp only [argsA] at h
   split at h
   · rename_i v hv
     split at h
     · rename_i l' hl
       injection h with h;subst h
       exact ⟨evO_sound hr hv,argsA_sound hr hl⟩
     · cases h
   · cases h
theorem run_callFunc {P:Program} {f:FuncId} (h:FnOk P f) (args:Array Value) (w:World):(callFunc f args).run P w=.ok (.enter f args) w:=by
 obtain ⟨fn,h1,h2,h3⟩:=h
 simp only [callFunc,Sem.run_bind,run_program,Result.andThen_ok,h1]
 simp [h2,h3]
theorem run_method {P:Program} {d f:Nat} {n:String} (h:methB P d n f=true) (v:Value) (w:World):(method (P.types.size+Made.depth) d v n).run P w=.ok (f,v) w:=by
 unfold methB at h
 have h0:1≤Made.depth:=by decide
 obtain ⟨k,hk⟩:∃ k,P.types.size+Made.depth=k+1:=⟨P.types.size+(Made.depth - 1),by omega⟩
 rw [hk]
 rw [Bool.and_eq_true] at h
 obtain ⟨h1,h2⟩:=h
 split at h1
 · rename_i i hi
   split at h1
   · rename_i m hm
     simp only [Bool.and_eq_true] at h1
     obtain ⟨h3,h4⟩:=h1
     split at h4
     · rename_i g hg
       have h4:=Nat.eq_of_beq_eq_true h4
       subst h4
       split at h2
       · rename_i fs hu
         have hp:m.path.toList=[]:=by simpa using h3
         simp [method,typeInfo,hi,hm,hp,follow,hg,receiverAt,run_underlying hu,Place.get]
       · cases h2
     · cases h4
   · cases h1
 · cases h1
theorem callA_sound {P:Program} {ti:Nat→Option TI} (hT:TOk P ti) {c:Ctx} {s:St} {a:Act} {w:World} {A:Nat→Prop} {ρ:Rho} (hr:Rep c s a w A ρ) {o:Oper} {f:FuncId} {l:List A1} (h:callA ti s o.op=some (f,l)) (hf:FnOk P f) :
   ∃ vs,(execOp a.eval o).run P w=.ok (.enter f vs) w∧All2 (A1.At w A ρ) l vs.toList:=by
 obtain ⟨dst,op,ty,pos,aft,grd⟩:=o
 dsimp only at h
 unfold callA at h
 split at h
 · rename_i x args tys
   split at h
   · rename_i f' l' hx hl
     simp only [Option.some.injEq,Prod.mk.injEq] at h;obtain ⟨rfl,rfl⟩:=h
     have h1:a.eval x=.func (.func f') #[] #[]:=(evO_sound hr hx).1
     refine ⟨(args.map a.eval).toArray,?_,by simpa using argsA_sound hr hl⟩
     simp [execOp,resolve,Deferred.ofValue,h1,invoke,run_callFunc hf]
   · rename_i q f' h' wd i j l' hx hl
     simp only [Option.some.injEq,Prod.mk.injEq] at h;obtain ⟨rfl,rfl⟩:=h
     obtain ⟨b,m,h2,h1⟩:=evO_sound hr hx
     cases q
     · have h1:a.eval x=.func (.func f') #[] #[.pointer (some ⟨b,i * wd+j,none⟩)]:=h1
       refine ⟨(args.map a.eval).toArray++#[.pointer (some ⟨b,i * wd+j,none⟩)],?_,?_⟩
       · simp [execOp,resolve,Deferred.ofValue,h1,invoke,run_callFunc hf]
       · simpa using All2.append (argsA_sound hr hl) (show All2 (A1.At w A ρ) [.c (.ptr h' wd i j)] [.pointer (some ⟨b,i * wd+j,none⟩)] from ⟨⟨b,m,h2,rfl⟩,trivial⟩)
     · have h1:a.eval x=.func (.func f') #[.pointer (some ⟨b,i * wd+j,none⟩)] #[]:=h1
       refine ⟨#[.pointer (some ⟨b,i * wd+j,none⟩)]++(args.map a.eval).toArray,?_,?_⟩
       · simp [execOp,resolve,Deferred.ofValue,h1,invoke,run_callFunc hf]
       · simpa using (show All2 (A1.At w A ρ) (.c (.ptr h' wd i j) ::l') (.pointer (some ⟨b,i * wd+j,none⟩) ::args.map a.eval) from ⟨⟨b,m,h2,rfl⟩,argsA_sound hr hl⟩)
   · cases h
 · rename_i x n args tys
   split at h
   · rename_i d l' hx hl
     split at h
     · rename_i td htd
       split at h
       · rename_i g hg
         simp only [Option.some.injEq,Prod.mk.injEq] at h;obtain ⟨rfl,rfl⟩:=h
         have h1:a.eval x=.iface d (.agg #[]):=(evO_sound hr hx).1
         have hm:=hT _ _ htd
         have hmB:=List.all_eq_true.1 hm.2.2.2 _ (mth_mem hg)
         refine ⟨#[.agg #[]]++(args.map a.eval).toArray,?_,?_⟩
         · have hmeth:=run_method hmB (.agg #[]) w
           simp [execOp,resolve,h1,invoke,callMethod,hmeth,run_callFunc hf,List.take_of_length_le]
         · simpa using (show All2 (A1.At w A ρ) (.g [] ::l') (.agg #[] ::args.map a.eval) from ⟨⟨#[],rfl,trivial⟩,argsA_sound hr hl⟩)
       · cases h
     · cases h
   · cases h
 · cases h
def wantA (ops:List Oper) (s:St) (g:Option (Nat × Bool)):Option (Bool × Bool) :=
 match g with
 | none=>some (true,true)
 | some (j,want)=>match ops[j]? with
   | some oj=>match oj.dst with
     | some d=>match look d s.t with
       | some (.o (.c (.t (.v (.bool b)))))=>some (b,want)
       | some (.tup [])=>some (true,false)
       | _=>none
     | none=>none
   | none=>none
theorem wantA_sound {c:Ctx} {s:St} {a:Act} {w:World} {A:Nat→Prop} {ρ:Rho} (hr:Rep c s a w A ρ) {ops:Array Oper} {o:Oper} {b want:Bool} (hnt:∀ o ∈ ops.toList,∀ d,o.dst=some d→d < c.nt)
   (h:wantA ops.toList s o.guard=some (b,want)):Region.wanted o (yielded ops a.tmps)=(b == want):=by
 unfold wantA at h
 unfold Region.wanted
 split at h
 · rename_i hg;injection h with h;injection h with h1 h2;subst h1;subst h2;simp [hg]
 · rename_i j want' hg
   split at h
   · rename_i oj hoj
     split at h
     · rename_i d hd
       have hoj':ops[j]? = some oj:=by simpa using hoj
       have hdl:d < a.tmps.size:=by
         rw [hr.nt];exact hnt oj (List.mem_of_getElem? hoj) d hd
       have hget:a.tmps[d]? = some (a.tmps.getD d undef):=by simp [Array.getD_eq_getD_getElem?,Array.getElem?_eq_getElem hdl]
       split at h
       · rename_i q hq
         have:=hr.tmps _ _ hq
         have e:a.tmps.getD d undef=.bool q:=this.1
         injection h with h;injection h with h1 h2;subst h1;subst h2
         simp [hg,yielded,hoj',hd,hget,e]
       · rename_i hq
         obtain ⟨vs,e,hall⟩:=hr.tmps _ _ hq
         injection h with h;injection h with h1 h2;subst h1;subst h2
         simp [hg,yielded,hoj',hd,hget,e]
       · cases h
     · cases h
   · cases h
inductive EvR where
 | val (p:Prop) (v:AV) (h:Heap) (nx:Nat)
 | call (f:FuncId) (args:List A1)
 | bad
def evR (c:Option (FuncId × List A1)) (x:Option (Prop × AV × Heap × Nat)):EvR :=
 match c,x with
 | some (f,l),_=>.call f l
 | none,some (p,v,h,n)=>.val p v h n
 | none,none=>.bad
@[go_sem] theorem evR_call {f:FuncId} {l:List A1} {x:Option (Prop × AV × Heap × Nat)}:evR (some (f,l)) x=.call f l:=rfl
@[go_sem] theorem evR_val {p:Prop} {v:AV} {h:Heap} {n:Nat}:evR none (some (p,v,h,n))=.val p v h n:=rfl
mutual
def runR (P:Program) (ti:Nat→Option TI) (ops:List Oper):List Oper→St→(St→Prop)→Prop
 | [],s,K=>K s
 | o ::rest,s,K=>runG P ti ops o rest s K (wantA ops s o.guard)
termination_by l=>(l.length,0)
def runG (P:Program) (ti:Nat→Option TI) (ops:List Oper) (o:Oper) (rest:List Oper) (s:St) (K:St→Prop):Option (Bool × Bool)→Prop
 | some (b,want)=>if b=want then runS P ti ops o.dst rest s K (evR (callA ti s o.op) (aop ti s o.op)) else runR P ti ops rest (s.put o.dst (.tup [])) K
 | none=>False
termination_by (rest.length,2)
def runS (P:Program) (ti:Nat→Option TI) (ops:List Oper) (dst:Option Nat) (rest:List Oper) (s:St) (K:St→Prop):EvR→Prop
 | .val p v h nx=>p∧runR P ti ops rest ({ s with h:=h,nx:=nx }.put dst v) K
 | .call f args=>ACall P f args s fun v h nx=>runR P ti ops rest ({ s with h:=h,nx:=nx }.put dst v) K
 | .bad=>False
termination_by (rest.length,1)
end
section
variable {P:Program} {ti:Nat→Option TI} {ops:List Oper} {o:Oper} {rest:List Oper} {s:St} {K:St→Prop} {dst:Option Nat}
@[go_sem] theorem runR_nil:runR P ti ops [] s K=K s:=by rw [runR]
@[go_sem] theorem runR_cons:runR P ti ops (o ::rest) s K=runG P ti ops o rest s K (wantA ops s o.guard):=by rw [runR]
@[go_sem] theorem runG_tt:runG P ti ops o rest s K (some (true,true))=runS P ti ops o.dst rest s K (evR (callA ti s o.op) (aop ti s o.op)):=by rw [runG];rfl
@[go_sem] theorem runG_ff:runG P ti ops o rest s K (some (false,false))=runS P ti ops o.dst rest s K (evR (callA ti s o.op) (aop ti s o.op)):=by rw [runG];rfl
@[go_sem] theorem runG_tf:runG P ti ops o rest s K (some (true,false))=runR P ti ops rest (s.put o.dst (.tup [])) K:=by rw [runG];rfl
@[go_sem] theorem runG_ft:runG P ti ops o rest s K (some (false,true))=runR P ti ops rest (s.put o.dst (.tup [])) K:=by rw [runG];rfl
@[go_sem] theorem runS_val {p:Prop} {v:AV} {h:Heap} {nx:Nat}:runS P ti ops dst rest s K (.val p v h nx)=(p∧runR P ti ops rest ({ s with h:=h,nx:=nx }.put dst v) K):=by rw [runS]
theorem runG_split {b want:Bool} (h1:b=want→runS P ti ops o.dst rest s K (evR (callA ti s o.op) (aop ti s o.op))) (h2:b = !want→runR P ti ops rest (s.put o.dst (.tup [])) K):runG P ti ops o rest s K (some (b,want)):=by
 rw [runG]
 split
 · exact h1 ‹_›
 · rename_i h;exact h2 (by cases b<;>cases want<;>simp_all)
theorem runS_call {f:FuncId} {args:List A1} (h:ACall P f args s fun v h nx=>runR P ti ops rest ({ s with h:=h,nx:=nx }.put dst v) K):runS P ti ops dst rest s K (.call f args):=by rw [runS];exact h
end
theorem undef_at {w:World} {A:Nat→Prop} {ρ:Rho}:(AV.tup []).At w A ρ undef:=⟨#[],rfl,trivial⟩
theorem runR_sound {P:Program} {ti:Nat→Option TI} (hT:TOk P ti) {c:Ctx} {ops:Array Oper} (hnt:∀ o ∈ ops.toList,∀ d,o.dst=some d→d < c.nt) {K:St→Prop} {Q:Exit→Act→World→Prop}
   (hQ:∀ s' a' w',K s'→Abs c s' a' w'→Q .normal a' w'):∀ {rest:List Oper} {s:St} {a:Act} {w:World},(∀ o ∈ rest,o ∈ ops.toList)→runR P ti ops.toList rest s K→Abs c s a w→wpList P ops Q rest a w
 | [],s,a,w,_,h,ha=>hQ s a w (by rw [runR] at h;exact h) ha
 | o ::rest,s,a,w,hsub,h,ha=>by
   obtain ⟨A,ρ,hr⟩:=ha
   have hsub':∀ o ∈ rest,o ∈ ops.toList:=fun x hx=>hsub x (by simp [hx])
   have hd:∀ k,o.dst=some k→k < c.nt:=fun k hk=>hnt o (hsub o (by simp)) k hk
   rw [runR] at h
   cases hb:wantA ops.toList s o.guard with
   | none=>rw [hb,runG] at h;exact h.elim
   | some bw =>
     obtain ⟨b,want⟩:=bw
     rw [hb,runG] at h
     have hw:=wantA_sound hr hnt hb
     simp only [wpList]
     rw [hw]
     cases hbw:b == want with
     | true =>
       have hbw':b=want:=by simpa using hbw
       rw [if_pos hbw'] at h
       simp only [if_true]
       left
       unfold Oper.wp
       cases hc:callA ti s o.op with
       | some fl =>
         obtain ⟨f,args⟩:=fl
         rw [hc,evR_call,runS] at h
         obtain ⟨hf,hcall⟩:=h
         obtain ⟨vs,h1,h2⟩:=callA_sound hT hr hc hf
         rw [h1,Oper.upon_enter]
         refine (hcall c a w A ρ vs hr h2).mono ?_
         rintro e w' ⟨y,v,h',nx,A',ρ',rfl,hK,hr',hv⟩
         exact runR_sound hT hnt hQ hsub' hK ⟨A',ρ',hr'.put hd hv⟩
       | none =>
         cases he:aop ti s o.op with
         | some r =>
           obtain ⟨p,v,h',nx⟩:=r
           rw [hc,he,evR_val,runS] at h
           obtain ⟨hp,hK⟩:=h
           obtain ⟨y,w',ρ',hran,hr',hv⟩:=aop_sound hT hr he hp
           have hnext:=runR_sound hT hnt hQ hsub' hK ⟨A,ρ',hr'.put hd hv⟩
           rcases hran with hran|⟨hran,rfl⟩
           · rw [hran,Oper.upon_value];exact hnext
           · rw [hran,Oper.upon_skip];exact hnext
         | none =>
           rw [hc,he] at h
           simp only [evR] at h
           rw [runS] at h;exact h.elim
     | false =>
       have hbw':¬ b=want:=by simpa using hbw
       rw [if_neg hbw'] at h
       simp only [Bool.false_eq_true,if_false]
       exact runR_sound hT hnt hQ hsub' h ⟨A,ρ,hr.put hd undef_at⟩
def AWp (P:Program) (c:Ctx) (code:Code) (Q:Exit→St→Prop) (s:St):Prop :=
 ∀ a w,Abs c s a w→code.wp P (fun e a' w'=>∃ s',Q e s'∧Abs c s' a' w') a w
def thenQ (K:St→Prop) (Q:Exit→St→Prop):Exit→St→Prop
 | .normal,s=>K s
 | e,s=>Q e s
def blockQ (id:Nat) (Q:Exit→St→Prop):Exit→St→Prop
 | .exit id',s=>if id'=id then Q .normal s else Q (.exit id') s
 | e,s=>Q e s
def dstOk (nt:Nat) (ops:List Oper):Bool:=ops.all fun o=>match o.dst with
 | some d=>Nat.blt d nt
 | none=>true
section rules
variable {P:Program} {ti:Nat→Option TI} {c:Ctx} {Q:Exit→St→Prop} {s:St}
theorem AWp.region (hT:TOk P ti) {id:Nat} {ops:List Oper} (hd:dstOk c.nt ops=true) (h:runR P ti ops ops s (Q .normal)):AWp P c (.region id ⟨ops⟩ false) Q s:=by
 intro a w ha
 refine wp_region_list (runR_sound hT (ops:=⟨ops⟩) ?_ (K:=Q .normal) (fun s' a' w' hK h'=>⟨s',hK,h'⟩) (fun o h=>h) h ha)
 intro o ho d hod
 simp only [dstOk,List.all_eq_true] at hd
 have:=hd o ho
 rw [hod] at this
 simpa using this
theorem AWp.seq {x y:Code} (h:∀ K:St→Prop,(∀ s,AWp P c y Q s→K s)→AWp P c x (thenQ K Q) s):AWp P c (.seq x y) Q s:=by
 intro a w ha
 refine wp_seq (wp_mono (h (AWp P c y Q) (fun _ h=>h) a w ha) ?_)
 rintro e a' w' ⟨s',h1,h2⟩
 cases e<;>first|exact h1 a' w' h2|exact ⟨s',h1,h2⟩
theorem AWp.cond {x y:Code} {o:Operand} {t:Bool} (he:evO s o=some (.o (.c (.t (.v (.bool t)))))) (h1:t=true→AWp P c x Q s) (h2:t=false→AWp P c y Q s):AWp P c (.cond o x y) Q s:=by
 intro a w ha
 obtain ⟨A,ρ,hr⟩:=ha
 have e:a.eval o=.bool t:=(evO_sound hr he).1
 exact wp_cond_split e (fun h=>h1 h a w ⟨A,ρ,hr⟩) (fun h=>h2 h a w ⟨A,ρ,hr⟩)
theorem AWp.mono {x:Code} {Q':Exit→St→Prop} (h:AWp P c x Q s) (hq:∀ e s,Q e s→Q' e s):AWp P c x Q' s :=
 fun a w ha=>wp_mono (h a w ha) fun e a' w' ⟨s',h1,h2⟩=>⟨s',hq e s' h1,h2⟩
def condG (x:Option AV) (X Y:Prop):Prop:=match x with
 | some (.o (.c (.t (.v (.bool t)))))=>if t=true then X else Y
 | _=>False
@[go_sem] theorem condG_t {X Y:Prop}:condG (some (.o (.c (.t (.v (.bool true)))))) X Y=X:=rfl
@[go_sem] theorem condG_f {X Y:Prop}:condG (some (.o (.c (.t (.v (.bool false)))))) X Y=Y:=rfl
theorem condG_split {b:Bool} {X Y:Prop} (h1:b=true→X) (h2:b=false→Y):condG (some (.o (.c (.t (.v (.bool b)))))) X Y:=by
 cases b
 · exact h2 rfl
 · exact h1 rfl
theorem AWp.cond' {x y:Code} {o:Operand} (h:∀ X Y:Prop,(AWp P c x Q s→X)→(AWp P c y Q s→Y)→condG (evO s o) X Y):AWp P c (.cond o x y) Q s:=by
 have h:=h _ _ id id
 unfold condG at h
 split at h
 · rename_i t he
   refine AWp.cond he (fun e=>?_) (fun e=>?_)
   · rw [if_pos e] at h;exact h
   · rw [if_neg (by simp [e])] at h;exact h
 · exact h.elim
theorem AWp.block {id:Nat} {x:Code} (h:AWp P c x (blockQ id Q) s):AWp P c (.block id x) Q s:=by
 intro a w ha
 refine wp_block (wp_mono (h a w ha) ?_)
 rintro e a' w' ⟨s',h1,h2⟩
 cases e with
 | exit id' =>
   simp only [blockQ] at h1
   simp only [Exit.inBlock]
   split<;>rename_i hid
   · simp only [hid,if_true] at h1;exact ⟨s',h1,h2⟩
   · simp only [hid,if_false] at h1;exact ⟨s',h1,h2⟩
 | _=>exact ⟨s',h1,h2⟩
theorem AWp.skip (h:Q .normal s):AWp P c .skip Q s:=fun a w ha=>wp_skip ⟨s,h,ha⟩
theorem AWp.exit {id:Nat} (h:Q (.exit id) s):AWp P c (.exit id) Q s:=fun a w ha=>wp_exit ⟨s,h,ha⟩
theorem AWp.ret (h:Q .ret s):AWp P c .ret Q s:=fun a w ha=>wp_ret ⟨s,h,ha⟩
def SLe (c:Ctx) (s s':St):Prop:=∀ a w,Abs c s a w→Abs c s' a w
theorem AWp.le {x:Code} {s':St} (hs:SLe c s s') (h:AWp P c x Q s'):AWp P c x Q s:=fun a w ha=>h a w (hs a w ha)
theorem least {p:Nat→Prop} (h:∃ n,p n):∃ n,p n∧∀ m,p m→n≤m:=by
 obtain ⟨n,hn⟩:=h
 induction n using Nat.strongRecOn with
 | _ n ih =>
   by_cases hex:∃ m,m < n∧p m
   · obtain ⟨m,h1,h2⟩:=hex
     exact ih m h1 h2
   · exact ⟨n,hn,fun m hm=>Nat.le_of_not_lt fun hlt=>hex ⟨m,hlt,hm⟩⟩
open Classical in
theorem AWp.loop {α:Type} (I:α→St) (p:α→Prop) (μ:α→Nat) (x0:α) {body:Code} (hp:p x0) (h0:SLe c s (I x0))
   (round:∀ x,p x→AWp P c body (thenQ (fun s'=>∃ y,p y∧SLe c s' (I y)∧μ y < μ x) Q) (I x)):AWp P c (.loop body) Q s:=by
 intro a w ha
 have key:∀ a w,(∃ x,p x∧Abs c (I x) a w)→∃ n,(∃ x,(p x∧Abs c (I x) a w)∧μ x=n)∧∀ m,(∃ x,(p x∧Abs c (I x) a w)∧μ x=m)→n≤m :=
   fun a w ⟨x,hx⟩=>least ⟨μ x,x,hx,rfl⟩
 let m:Act→World→Nat:=fun a w=>if h:∃ x,p x∧Abs c (I x) a w then Classical.choose (key a w h) else 0
 refine wp_loop (fun a w=>∃ x,p x∧Abs c (I x) a w) m ⟨x0,hp,h0 a w ha⟩ ?_
 intro a w hx
 have hm:m a w=Classical.choose (key a w hx):=by simp only [m];rw [dif_pos hx]
 obtain ⟨⟨x,⟨hpx,hx1⟩,hx2⟩,hmin⟩:=Classical.choose_spec (key a w hx)
 refine wp_mono (round x hpx a w hx1) ?_
 rintro e a' w' ⟨s',h1,h2⟩
 cases e with
 | normal =>
   obtain ⟨y,hpy,hy1,hy2⟩:=h1
   have hy:=hy1 a' w' h2
   have hex:∃ x,p x∧Abs c (I x) a' w':=⟨y,hpy,hy⟩
   refine ⟨hex,?_⟩
   have:m a' w'≤μ y:=by
     simp only [m];rw [dif_pos hex]
     exact (Classical.choose_spec (key a' w' hex)).2 _ ⟨y,⟨hpy,hy⟩,rfl⟩
   rw [hm,← hx2];omega
 | _=>exact ⟨s',h1,h2⟩
def aRounds (P:Program) (c:Ctx) (body:Code) (Q:Exit→St→Prop):Nat→St→Prop
 | 0,_=>False
 | n+1,s=>AWp P c body (thenQ (aRounds P c body Q n) Q) s
theorem aRounds_sound {body:Code}:∀ (n:Nat) (s:St) (a:Act) (w:World),aRounds P c body Q n s→Abs c s a w→Code.rounds P body (fun e a' w'=>∃ s',Q e s'∧Abs c s' a' w') n a w
 | 0,_,_,_,h,_=>h.elim
 | n+1,s,a,w,h,ha=>by
   rw [rounds_succ]
   refine wp_mono (h a w ha) ?_
   rintro e a' w' ⟨s',h1,h2⟩
   cases e<;>first|exact aRounds_sound n s' a' w' h1 h2|exact ⟨s',h1,h2⟩
theorem AWp.loopN (n:Nat) {body:Code} (h:∀ L:Nat→St→Prop,(∀ m s,AWp P c body (thenQ (L m) Q) s→L (m+1) s)→L n s):AWp P c (.loop body) Q s :=
 fun a w ha=>wp_loop_rounds n (aRounds_sound n s a w (h (aRounds P c body Q) fun _ _ h=>h) ha)
end rules
end Go.Hw
namespace Go.Hw
def AObj.void:AObj→Bool
 | .row _ n _=>Nat.beq n 0
 | _=>false
theorem void_real {x:AObj}:x.void=false ↔ x.real:=by
 cases x with
 | row wd n f =>
   simp only [AObj.void,AObj.real]
   constructor
   · intro h e;subst e;simp at h
   · intro h
     cases hb:Nat.beq n 0 with
     | true=>exact absurd (Nat.eq_of_beq_eq_true hb) h
     | false=>rfl
 | _=>simp [AObj.void,AObj.real]
def rn (τ:List (Nat × Nat)) (h:Nat):Nat:=match look h τ with
 | some x=>x
 | none=>h
def rhoR (ρ:Rho) (τ:List (Nat × Nat)) (N:Nat):Rho:=fun h=>if h < N then ρ (rn τ h) else none
def tle:TV→TV→Prop
 | .v x,.v y=>x=y
 | .v x,.sl _ n _=>x=.slice none 0 0∧n=0
 | .sl w n f,.sl w' n' g=>w=w'∧n=n'∧∀ i,i < n→∀ j,j < w→tle (f i j) (g i j)
 | .ptr w f,.ptr w' g=>w=w'∧∀ j,j < w→tle (f j) (g j)
 | _,_=>False
theorem tle_refl:∀ {x:TV},tle x x
 | .v _=>rfl
 | .sl _ _ f=>⟨rfl,rfl,fun i _ j _=>tle_refl (x:=f i j)⟩
 | .ptr _ f=>⟨rfl,fun j _=>tle_refl (x:=f j)⟩
theorem tle_sound {w:World} {A:Nat→Prop}:∀ {x y:TV} {z:Value},tle x y→x.At w A z→y.At w A z
 | .v x,.v y,z,h,hx=>by simp only [tle] at h;subst h;exact hx
 | .v x,.sl _ n _,z,h,hx=>by
   simp only [tle] at h;obtain ⟨rfl,rfl⟩:=h;obtain ⟨rfl,_⟩:=hx
   exact ⟨none,0,rfl,Nat.le_refl _,fun i hi=>absurd hi (Nat.not_lt_zero i)⟩
 | .sl w' n f,.sl _ _ g,z,h,hx=>by
   simp only [tle] at h;obtain ⟨rfl,rfl,h⟩:=h
   obtain ⟨a,cap,rfl,hc,hall⟩:=hx
   refine ⟨a,cap,rfl,hc,fun i hi=>?_⟩
   obtain ⟨b,o,h1,h2,h3⟩:=hall i hi
   refine ⟨b,o,h1,h2,fun j hj=>?_⟩
   obtain ⟨u,h4,h5⟩:=h3 j hj
   exact ⟨u,h4,tle_sound (h i hi j hj) h5⟩
 | .ptr w' f,.ptr _ g,z,h,hx=>by
   simp only [tle] at h;obtain ⟨rfl,h⟩:=h
   obtain ⟨b,o,rfl,h2,h3⟩:=hx
   refine ⟨b,o,rfl,h2,fun j hj=>?_⟩
   obtain ⟨u,h4,h5⟩:=h3 j hj
   exact ⟨u,h4,tle_sound (h j hj) h5⟩
 | .v _,.ptr _ _,_,h,_=>by simp only [tle] at h
 | .sl _ _ _,.v _,_,h,_=>by simp only [tle] at h
 | .sl _ _ _,.ptr _ _,_,h,_=>by simp only [tle] at h
 | .ptr _ _,.v _,_,h,_=>by simp only [tle] at h
 | .ptr _ _,.sl _ _ _,_,h,_=>by simp only [tle] at h
def tof (H:Heap) (fz:Nat→Prop):Nat→Cell→TV→Prop
 | _,.t x,y=>tle x y
 | n+1,.sl h wd s m,.sl wd' m' g=>fz h∧wd=wd'∧m=m'∧match look h H with
   | some (.row wd'' k f)=>wd''=wd∧s+m≤k∧∀ i,i < m→∀ j,j < wd→tof H fz n (f (s+i) j) (g i j)
   | some (.box l)=>s=0∧m * wd≤l.length∧∀ k c,l[k]? = some c→tof H fz n c (g (k / wd) (k % wd))
   | _=>False
 | n+1,.ptr h wd i j,.ptr w' g=>fz h∧match look h H with
   | some (.box l)=>i * wd+j=0∧w'=l.length∧∀ k c,l[k]? = some c→tof H fz n c (g k)
   | _=>False
 | _,_,_=>False
theorem tof_sound {w:World} {A A':Nat→Prop} {ρ:Rho} {H:Heap} {fz:Nat→Prop} (hH:HeapAt w A ρ H) (hA:∀ b,A b→A' b) (hfz:∀ h o,fz h→look h H=some o→o.real→∀ b m,ρ h=some (b,m)→A' b) :
   ∀ {n:Nat} {x:Cell} {y:TV} {z:Value},tof H fz n x y→x.At w A ρ z→y.At w A' z
 | _,.t x,y,z,h,hx=>by
   have:tle x y:=by cases ‹Nat›<;>(simp only [tof] at h;exact h)
   exact tle_sound this (TV.At.mono hA (fun _ _=>rfl) hx)
 | n + 1,.sl h wd s m,.sl wd' m' g,z,hh,hx=>by
   simp only [tof] at hh
   obtain ⟨h1,rfl,rfl,h2⟩:=hh
   split at h2
   · rename_i wd'' k f hl
     obtain ⟨rfl,h3,h4⟩:=h2
     rcases hx with ⟨rfl,a,rfl⟩|⟨hn0,b,mm,cap,hk,rfl,hc1,hc2⟩
     · exact ⟨a,0,rfl,Nat.le_refl _,fun i hi=>absurd hi (Nat.not_lt_zero i)⟩
     have hre:(AObj.row wd'' k f).real:=by show k ≠ 0;omega
     obtain ⟨b',m',hk',hat,_,_⟩:=hH.objs _ (look_mem hl) hre
     rw [hk] at hk';injection hk' with hk';injection hk' with e1 e2;subst e1;subst e2
     obtain ⟨cs,e,hc,hm,hnm,hall⟩:=hat
     refine ⟨_,cap,rfl,hc1.1,fun i hi=>⟨b,s * wd'',rfl,hfz _ _ h1 hl hre _ _ hk,fun j hj=>?_⟩⟩
     obtain ⟨u,hu1,hu2⟩:=hall (s+i) (by omega) j hj
     refine ⟨u,?_,tof_sound hH hA hfz (h4 i hi j hj) hu2⟩
     rw [cell_of_cells hc,← hu1,Nat.add_mul,Nat.add_assoc]
   · rename_i l hl
     obtain ⟨rfl,h3,h4⟩:=h2
     rcases hx with ⟨rfl,a,rfl⟩|⟨hn0,b,mm,cap,hk,rfl,hc1,hc2⟩
     · exact ⟨a,0,rfl,Nat.le_refl _,fun i hi=>absurd hi (Nat.not_lt_zero i)⟩
     obtain ⟨b',m',hk',hat,_,_⟩:=hH.objs _ (look_mem hl) trivial
     rw [hk] at hk';injection hk' with hk';injection hk' with e1 e2;subst e1;subst e2
     obtain ⟨cs,e,hc,hm,hall⟩:=hat
     refine ⟨_,cap,rfl,hc1.1,fun i hi=>⟨b,0 * wd,rfl,hfz _ _ h1 hl trivial _ _ hk,fun j hj=>?_⟩⟩
     have hin:(i+1) * wd≤m * wd:=Nat.mul_le_mul_right _ hi
     rw [Nat.add_mul] at hin
     have hlt:i * wd+j < l.length:=by omega
     have hd:(i * wd+j) / wd=i∧(i * wd+j) % wd=j:=by
       have h0:0 < wd:=by omega
       constructor
       · rw [Nat.mul_comm,Nat.mul_add_div h0,Nat.div_eq_of_lt hj];rfl
       · rw [Nat.mul_comm,Nat.mul_add_mod];exact Nat.mod_eq_of_lt hj
     obtain ⟨u,hu1,hu2⟩:=All2.get hall (List.getElem?_eq_getElem hlt)
     have ht:=h4 (i * wd+j) _ (List.getElem?_eq_getElem hlt)
     rw [hd.1,hd.2] at ht
     refine ⟨u,?_,tof_sound hH hA hfz ht hu2⟩
     rw [cell_of_cells hc,Nat.zero_mul,Nat.zero_add];simpa using hu1
   · exact h2.elim
 | n + 1,.ptr h wd i j,.ptr w' g,z,hh,hx=>by
   simp only [tof] at hh
   obtain ⟨h1,h2⟩:=hh
   split at h2
   · rename_i l hl
     obtain ⟨h3,rfl,h4⟩:=h2
     obtain ⟨b,mm,hk,rfl⟩:=hx
     obtain ⟨b',m',hk',hat,_,_⟩:=hH.objs _ (look_mem hl) trivial
     rw [hk] at hk';injection hk' with hk';injection hk' with e1 e2;subst e1;subst e2
     obtain ⟨cs,e,hc,hm,hall⟩:=hat
     refine ⟨b,0,by rw [h3],hfz _ _ h1 hl trivial _ _ hk,fun k hk'=>?_⟩
     obtain ⟨u,hu1,hu2⟩:=All2.get hall (List.getElem?_eq_getElem hk')
     exact ⟨u,by rw [cell_of_cells hc,Nat.zero_add];simpa using hu1,tof_sound hH hA hfz (h4 k _ (List.getElem?_eq_getElem hk')) hu2⟩
   · exact h2.elim
 | 0,.sl _ _ _ _,_,_,h,_=>by simp only [tof] at h
 | 0,.ptr _ _ _ _,_,_,h,_=>by simp only [tof] at h
 | 0,.tp _ _ _,_,_,h,_=>by simp only [tof] at h
 | 0,.mp _,_,_,h,_=>by simp only [tof] at h
 | 0,.ch _,_,_,h,_=>by simp only [tof] at h
 | 0,.fp _ _ _ _ _ _,_,_,h,_=>by simp only [tof] at h
 | _+1,.tp _ _ _,_,_,h,_=>by simp only [tof] at h
 | _+1,.mp _,_,_,h,_=>by simp only [tof] at h
 | _+1,.ch _,_,_,h,_=>by simp only [tof] at h
 | _+1,.fp _ _ _ _ _ _,_,_,h,_=>by simp only [tof] at h
 | _+1,.sl _ _ _ _,.v _,_,h,_=>by simp only [tof] at h
 | _+1,.sl _ _ _ _,.ptr _ _,_,h,_=>by simp only [tof] at h
 | _+1,.ptr _ _ _ _,.v _,_,h,_=>by simp only [tof] at h
 | _+1,.ptr _ _ _ _,.sl _ _ _,_,h,_=>by simp only [tof] at h
def cle (H:Heap) (fz:Nat→Prop) (τ:List (Nat × Nat)) (N:Nat):Cell→Cell→Prop
 | x,.t y=>tof H fz 6 x y
 | .ptr h wd i j,.ptr h' wd' i' j'=>h=rn τ h'∧h' < N∧i * wd+j=i' * wd'+j'
 | .sl h wd s n,.sl h' wd' s' n'=>h=rn τ h'∧h' < N∧wd=wd'∧s=s'∧n=n'
 | .t (.v (.slice none 0 0)),.sl _ _ _ n'=>n'=0
 | .tp wd f j,.tp wd' g j'=>wd=wd'∧j=j'∧∀ k,k < wd→tle (f k) (g k)
 | .mp h,.mp h'=>h=rn τ h'∧h' < N
 | .ch h,.ch h'=>h=rn τ h'∧h' < N
 | .fp q f h wd i j,.fp q' f' h' wd' i' j'=>q=q'∧f=f'∧h=rn τ h'∧h' < N∧i * wd+j=i' * wd'+j'
 | _,_=>False
theorem cle_sound {w:World} {A A':Nat→Prop} {ρ:Rho} {H:Heap} {fz:Nat→Prop} (hH:HeapAt w A ρ H) (hA:∀ b,A b→A' b) (hfz:∀ h o,fz h→look h H=some o→o.real→∀ b m,ρ h=some (b,m)→A' b) {τ:List (Nat × Nat)} {N:Nat}
   {x y:Cell} {z:Value} (h:cle H fz τ N x y) (hx:x.At w A ρ z):y.At w A' (rhoR ρ τ N) z:=by
 have hr:∀ {h h':Nat} {p:Nat × Nat},h=rn τ h'→h' < N→ρ h=some p→rhoR ρ τ N h'=some p:=by
   intro h h' p e1 e2 e3;unfold rhoR;rw [if_pos e2,← e1];exact e3
 unfold cle at h
 split at h
 · exact tof_sound hH hA hfz h hx
 · obtain ⟨h1,h2,h3⟩:=h
   obtain ⟨b,m,hk,rfl⟩:=hx
   exact ⟨b,m,hr h1 h2 hk,by rw [h3]⟩
 · obtain ⟨h1,h2,rfl,rfl,rfl⟩:=h
   rcases hx with hx|⟨h0,b,m,cap,hk,rfl,hc⟩
   · exact .inl hx
   · exact .inr ⟨h0,b,m,cap,hr h1 h2 hk,rfl,hc⟩
 · obtain ⟨rfl,_⟩:=hx
   exact .inl ⟨h,_,rfl⟩
 · obtain ⟨rfl,rfl,h3⟩:=h
   obtain ⟨b,o,rfl,hb,hall⟩:=hx
   refine ⟨b,o,rfl,hA _ hb,fun k hk=>?_⟩
   obtain ⟨u,hu1,hu2⟩:=hall k hk
   exact ⟨u,hu1,tle_sound (h3 k hk) (TV.At.mono hA (fun _ _=>rfl) hu2)⟩
 · obtain ⟨h1,h2⟩:=h
   obtain ⟨b,m,hk,rfl⟩:=hx
   exact ⟨b,m,hr h1 h2 hk,rfl⟩
 · obtain ⟨h1,h2⟩:=h
   obtain ⟨b,m,hk,rfl⟩:=hx
   exact ⟨b,m,hr h1 h2 hk,rfl⟩
 · obtain ⟨rfl,rfl,h1,h2,h3⟩:=h
   obtain ⟨b,m,hk,rfl⟩:=hx
   exact ⟨b,m,hr h1 h2 hk,by rw [h3]⟩
 · exact h.elim
def a1le (H:Heap) (fz:Nat→Prop) (τ:List (Nat × Nat)) (N:Nat):A1→A1→Prop
 | .c x,.c y=>cle H fz τ N x y
 | .g l,.g m=>All2 (cle H fz τ N) l m
 | _,_=>False
def avle (H:Heap) (fz:Nat→Prop) (τ:List (Nat × Nat)) (N:Nat):AV→AV→Prop
 | .o x,.o y=>a1le H fz τ N x y
 | .tup l,.tup m=>All2 (a1le H fz τ N) l m
 | _,_=>False
def ole (H:Heap) (fz:Nat→Prop) (τ:List (Nat × Nat)) (N:Nat):AObj→AObj→Prop
 | .box l,.box m=>All2 (cle H fz τ N) l m
 | .row wd n f,.row wd' n' g=>wd=wd'∧n'≤n∧∀ i,i < n'→∀ j,j < wd→cle H fz τ N (f i j) (g i j)
 | .raw o,.raw o'=>o=o'
 | .glob g v,.glob g' v'=>g=g'∧v=v'
 | .tbx e l,.tbx e' m=>e=e'∧All2 (cle H fz τ N) l m
 | _,_=>False
theorem All2.trans {α β γ:Type} {R:α→γ→Prop} {S:α→β→Prop} {T:β→γ→Prop} (h:∀ a b c,S a b→R a c→T b c):∀ {l:List α} {m:List β} {k:List γ},All2 S l m→All2 R l k→All2 T m k
 | [],[],[],_,_=>trivial
 | _ ::_,_ ::_,_ ::_,⟨x,y⟩,⟨u,v⟩=>⟨h _ _ _ x u,All2.trans h y v⟩
 | [],_ ::_,_,x,_=>x.elim
 | _ ::_,[],_,x,_=>x.elim
 | [],[],_ ::_,_,x=>x.elim
 | _ ::_,_ ::_,[],_,x=>x.elim
section le
variable {w:World} {A A':Nat→Prop} {ρ:Rho} {H:Heap} {fz:Nat→Prop} (hH:HeapAt w A ρ H) (hA:∀ b,A b→A' b) (hfz:∀ h o,fz h→look h H=some o→o.real→∀ b m,ρ h=some (b,m)→A' b) {τ:List (Nat × Nat)} {N:Nat}
include hH hA hfz
theorem a1le_sound {x y:A1} {z:Value} (h:a1le H fz τ N x y) (hx:x.At w A ρ z):y.At w A' (rhoR ρ τ N) z:=by
 cases x<;>cases y<;>simp only [a1le] at h
 · exact cle_sound hH hA hfz h hx
 · obtain ⟨cs,rfl,hall⟩:=hx
   refine ⟨cs,rfl,?_⟩
   exact All2.trans (S:=cle H fz τ N) (R:=Cell.At w A ρ) (fun _ _ _ h1 h2=>cle_sound hH hA hfz h1 h2) h hall
theorem avle_sound {x y:AV} {z:Value} (h:avle H fz τ N x y) (hx:x.At w A ρ z):y.At w A' (rhoR ρ τ N) z:=by
 cases x<;>cases y<;>simp only [avle] at h
 · exact a1le_sound hH hA hfz h hx
 · obtain ⟨cs,rfl,hall⟩:=hx
   refine ⟨cs,rfl,?_⟩
   exact All2.trans (S:=a1le H fz τ N) (R:=A1.At w A ρ) (fun _ _ _ h1 h2=>a1le_sound hH hA hfz h1 h2) h hall
theorem ole_sound {x y:AObj} {b m:Nat} (h:ole H fz τ N x y) (hx:x.At w A ρ b m):y.At w A' (rhoR ρ τ N) b m:=by
 cases x<;>cases y<;>simp only [ole] at h
 · obtain ⟨cs,e,h1,h2,hall⟩:=hx
   refine ⟨cs,e,h1,h2,?_⟩
   exact All2.trans (S:=cle H fz τ N) (R:=Cell.At w A ρ) (fun _ _ _ h1 h2=>cle_sound hH hA hfz h1 h2) h hall
 · obtain ⟨rfl,h4,h5⟩:=h
   obtain ⟨cs,e,h1,h2,h3,hall⟩:=hx
   refine ⟨cs,e,h1,h2,Nat.le_trans (Nat.mul_le_mul_right _ h4) h3,fun i hi j hj=>?_⟩
   obtain ⟨u,hu1,hu2⟩:=hall i (Nat.lt_of_lt_of_le hi h4) j hj
   exact ⟨u,hu1,cle_sound hH hA hfz (h5 i hi j hj) hu2⟩
 · subst h;exact hx
 · obtain ⟨rfl,rfl⟩:=h;exact hx
 · obtain ⟨rfl,h⟩:=h
   obtain ⟨cs,h1,h2,hall⟩:=hx
   refine ⟨cs,h1,h2,?_⟩
   exact All2.trans (S:=cle H fz τ N) (R:=Cell.At w A ρ) (fun _ _ _ h1 h2=>cle_sound hH hA hfz h1 h2) h hall
end le
def hle (H:Heap) (fz:Nat→Prop) (τ:List (Nat × Nat)) (N:Nat):Heap→Prop
 | []=>True
 | (h',o') ::r=>h' < N∧¬ fz (rn τ h')∧(match look (rn τ h') H with
     | some o=>ole H fz τ N o o'
     | none=>o'.void=true)∧(r.all fun x=>!Nat.beq (rn τ x.1) (rn τ h'))=true∧hle H fz τ N r
theorem real_ole {H:Heap} {fz:Nat→Prop} {τ:List (Nat × Nat)} {N:Nat} {x y:AObj} (h:ole H fz τ N x y) (hy:y.real):x.real:=by
 cases x<;>cases y<;>simp only [ole] at h<;>try trivial
 have:_ ≠ 0:=hy
 show _ ≠ 0
 omega
theorem inj_of {ρ:Rho}:∀ {H:Heap},H.Pairwise (fun x y=>x.2.real→y.2.real→∀ p q,ρ x.1=some p→ρ y.1=some q→p.1 ≠ q.1)→∀ {x y:Nat × AObj},x ∈ H→y ∈ H→x.2.real→y.2.real→x.1 ≠ y.1→∀ p q,ρ x.1=some p→ρ y.1=some q→p.1 ≠ q.1
 | [],_,x,_,hx,_,_,_,_=>by cases hx
 | z ::H,hp,x,y,hx,hy,hxr,hyr,hne=>by
   rw [List.pairwise_cons] at hp
   intro p q h1 h2
   rcases List.mem_cons.1 hx with hx1|hx1<;>rcases List.mem_cons.1 hy with hy1|hy1
   · exact absurd (by rw [hx1,hy1]) hne
   · rw [hx1] at h1 hxr;exact hp.1 y hy1 hxr hyr p q h1 h2
   · rw [hy1] at h2 hyr;exact fun e=>hp.1 x hx1 hyr hxr q p h2 h1 e.symm
   · exact inj_of hp.2 hx1 hy1 hxr hyr hne p q h1 h2
theorem hle_sound {w:World} {A A':Nat→Prop} {ρ:Rho} {H:Heap} {fz:Nat→Prop} (hH:HeapAt w A ρ H) (hA:∀ b,A b→A' b) (hfz:∀ h o,fz h→look h H=some o→o.real→∀ b m,ρ h=some (b,m)→A' b)
   (hA':∀ b,A' b→A b ∨ ∃ h o,fz h∧look h H=some o∧o.real∧∃ m,ρ h=some (b,m)) {τ:List (Nat × Nat)} {N:Nat} :
   ∀ {H':Heap},hle H fz τ N H'→HeapAt w A' (rhoR ρ τ N) H'∧∀ x ∈ H',x.2.real→∃ o,look (rn τ x.1) H=some o∧o.real∧x.1 < N
 | [],_=>⟨⟨fun x hx=>(by cases hx),List.Pairwise.nil⟩,fun x hx=>(by cases hx)⟩
 | (h',o') ::r,h=>by
   simp only [hle] at h
   obtain ⟨h1,h2,h3,h4,h5⟩:=h
   obtain ⟨ih1,ih2⟩:=hle_sound hH hA hfz hA' h5
   have key:o'.real→∃ o,look (rn τ h') H=some o∧o.real∧ole H fz τ N o o':=by
     intro hre
     split at h3
     · rename_i o hl
       exact ⟨o,hl,real_ole h3 hre,h3⟩
     · exact absurd h3 (by rw [void_real.2 hre];simp)
   refine ⟨⟨fun x hx hxr=>?_,?_⟩,fun x hx hxr=>?_⟩
   · rcases List.mem_cons.1 hx with hx|hx
     · subst hx
       obtain ⟨o,hl,hor,h3⟩:=key hxr
       obtain ⟨b,m,hk,hat,hnA,hlt⟩:=hH.objs _ (look_mem hl) hor
       have hk':rhoR ρ τ N h'=some (b,m):=by unfold rhoR;rw [if_pos h1];exact hk
       refine ⟨b,m,hk',ole_sound hH hA hfz h3 hat,?_,hlt⟩
       intro hb
       rcases hA' b hb with hb|⟨k,o2,hk1,hk2,hkr,m2,hk3⟩
       · exact hnA hb
       · by_cases e:k=rn τ h'
         · subst e;exact h2 hk1
         · exact inj_of hH.inj (look_mem hk2) (look_mem hl) hkr hor e _ _ hk3 hk rfl
     · exact ih1.objs x hx hxr
   · rw [List.pairwise_cons]
     refine ⟨fun x hx hor' hxr p q hp hq=>?_,ih1.inj⟩
     obtain ⟨o,hl,hor,h3⟩:=key hor'
     obtain ⟨o2,hx1,hx3,hx2⟩:=ih2 x hx hxr
     simp only [List.all_eq_true] at h4
     have hne:rn τ x.1 ≠ rn τ h':=by
       have:=h4 x hx
       intro e;simp [e] at this
     have hp':ρ (rn τ h')=some p:=by
       have:rhoR ρ τ N h'=some p:=hp
       unfold rhoR at this;rw [if_pos h1] at this;exact this
     have hq':ρ (rn τ x.1)=some q:=by
       unfold rhoR at hq;rw [if_pos hx2] at hq;exact hq
     exact fun e=>inj_of hH.inj (look_mem hx1) (look_mem hl) hx3 hor hne q p hq' hp' e.symm
   · rcases List.mem_cons.1 hx with hx|hx
     · subst hx
       obtain ⟨o,hl,hor,_⟩:=key hxr
       exact ⟨o,hl,hor,h1⟩
     · exact ih2 x hx hxr
def sle (H:Heap) (fz:Nat→Prop) (τ:List (Nat × Nat)) (N:Nat) (t:List (Nat × AV)):List (Nat × AV)→Prop
 | []=>True
 | (k,v') ::r=>(match look k t with
     | some v=>avle H fz τ N v v'
     | none=>False)∧sle H fz τ N t r
theorem sle_look {H:Heap} {fz:Nat→Prop} {τ:List (Nat × Nat)} {N:Nat} {t:List (Nat × AV)}:∀ {t':List (Nat × AV)},sle H fz τ N t t'→∀ k v',look k t'=some v'→∃ v,look k t=some v∧avle H fz τ N v v'
 | [],_,k,v',h=>by simp [look] at h
 | (j,u) ::r,h,k,v',hk=>by
   simp only [sle] at h
   simp only [look,cond_eq_ite] at hk
   split at hk
   · rename_i e
     have e:j=k:=by simpa using e
     subst e;injection hk with hk;subst hk
     have h1:=h.1
     split at h1
     · rename_i v hv;exact ⟨v,hv,h1⟩
     · exact h1.elim
   · exact sle_look h.2 k v' hk
theorem SLe.mk {c:Ctx} {s s':St} (τ:List (Nat × Nat)) (fz:Nat→Prop) (hτ:∀ x ∈ τ,c.k0≤x.1) (hN:c.k0≤s'.nx) (hfz:∀ h,fz h→∃ o,look h s.h=some o)
   (ht:sle s.h fz τ s'.nx s.t s'.t) (hh:hle s.h fz τ s'.nx s'.h):SLe c s s':=by
 rintro a w ⟨A,ρ,hr⟩
 let A':Nat→Prop:=fun b=>A b ∨ ∃ h o,fz h∧look h s.h=some o∧o.real∧∃ m,ρ h=some (b,m)
 have hA:∀ b,A b→A' b:=fun b hb=>.inl hb
 have hf:∀ h o,fz h→look h s.h=some o→o.real→∀ b m,ρ h=some (b,m)→A' b:=fun h o hh hl hor b m hk=>.inr ⟨h,o,hh,hl,hor,m,hk⟩
 obtain ⟨hH',hdom⟩:=hle_sound hr.heap hA hf (fun b hb=>hb) hh
 have hmem:∀ h o b m,look h s.h=some o→o.real→ρ h=some (b,m)→(c.F b ∨ c.w0.heap.size≤b)∧b < w.heap.size:=by
   intro h o b m hl hor hk
   refine ⟨hr.own _ (look_mem hl) hor b m hk,?_⟩
   obtain ⟨b',m',hk',_,_,hlt⟩:=hr.heap.objs _ (look_mem hl) hor
   rw [hk] at hk';injection hk' with hk';injection hk' with e1 e2;subst e1;exact hlt
 refine ⟨A',rhoR ρ τ s'.nx,{ heap:=hH',tmps:=?_,nt:=hr.nt,defers:=hr.defers.mono hA (fun _ _=>rfl),os:=hr.os,tape:=hr.tape,output:=hr.output,size:=hr.size,frame:=hr.frame,own:=?_,imm:=?_,old:=?_,new:=?_,k0:=hN }⟩
 · intro k v' hk
   obtain ⟨v,h1,h2⟩:=sle_look ht k v' hk
   exact avle_sound hr.heap hA hf h2 (hr.tmps k v h1)
 · intro x hx hxr b m hb
   obtain ⟨o,h1,hor,h2⟩:=hdom x hx hxr
   unfold rhoR at hb;rw [if_pos h2] at hb
   exact (hmem _ o b m h1 hor hb).1
 · rintro b (hb|⟨h,o,_,ho,hor,m,hk⟩)
   · exact hr.imm b hb
   · have:=hmem h o b m ho hor hk
     exact ⟨this.2,.inr this.1⟩
 · intro h hh'
   have e:rn τ h=h:=by
     unfold rn
     cases hl:look h τ with
     | none=>rfl
     | some x=>have:=hτ _ (look_mem hl);simp at this;omega
   unfold rhoR;rw [if_pos (by omega),e];exact hr.old h hh'
 · intro h hh'
   unfold rhoR;rw [if_neg (by omega)]
end Go.Hw
namespace Go.Hw
def minus:Heap→Heap→Heap
 | h,[]=>h
 | h,(k,_) ::r=>minus (rem k h) r
def hsub (N:Nat):Heap→Heap→Prop
 | _,[]=>True
 | h,(k,o') ::r=>(match look k h with
     | some o=>ole [] (fun _=>False) [] N o o'
     | none=>False)∧hsub N (rem k h) r
theorem minus_sub:∀ {H h:Heap},(minus h H).Sublist h
 | [],h=>List.Sublist.refl h
 | (k,o) ::r,h=>(minus_sub (H:=r) (h:=rem k h)).trans rem_sub
theorem rhoR_nil {ρ:Rho} {N:Nat} (h:∀ k,N≤k→ρ k=none):rhoR ρ [] N=ρ:=by
 funext k
 unfold rhoR
 split
 · rfl
 · rename_i hk;exact (h k (by omega)).symm
theorem hsub_split {w:World} {A:Nat→Prop} {ρ:Rho} {N:Nat} (hN:∀ k,N≤k→ρ k=none):∀ {H h:Heap},HeapAt w A ρ h→hsub N h H →
   HeapAt w A ρ H∧(∀ x ∈ H,x.2.real→∃ y ∈ h,y.1=x.1∧y.2.real)∧(∀ x ∈ H,x.2.real→∀ y ∈ minus h H,y.2.real→∀ p q,ρ x.1=some p→ρ y.1=some q→p.1 ≠ q.1)
 | [],h,_,_=>⟨⟨fun x hx=>(by cases hx),List.Pairwise.nil⟩,fun x hx=>(by cases hx),fun x hx=>(by cases hx)⟩
 | (k, o') ::r,h,hh,hs=>by
   simp only [hsub] at hs
   obtain ⟨h1,h2⟩:=hs
   split at h1
   · rename_i o hl
     have hrem:HeapAt w A ρ (rem k h):=hh.sub rem_sub
     obtain ⟨i1,i2,i3⟩:=hsub_split hN hrem h2
     have hnil:HeapAt w A ρ []:=⟨fun x hx=>(by cases hx),List.Pairwise.nil⟩
     refine ⟨⟨fun x hx hxr=>?_,?_⟩,fun x hx hxr=>?_,fun x hx hxr y hy hyr p q hp hq=>?_⟩
     · rcases List.mem_cons.1 hx with hx1|hx1
       · rw [hx1] at hxr ⊢
         obtain ⟨b,m,hk,hat,hnA,hlt⟩:=hh.objs _ (look_mem hl) (real_ole h1 hxr)
         have hat':o'.At w A ρ b m:=by
           have:=ole_sound hnil (A':=A) (fun _ h=>h) (fun _ _ h=>h.elim) h1 hat
           rw [rhoR_nil hN] at this;exact this
         exact ⟨b,m,hk,hat',hnA,hlt⟩
       · exact i1.objs x hx1 hxr
     · rw [List.pairwise_cons]
       refine ⟨fun x hx hr1 hxr p q hp hq=>?_,i1.inj⟩
       obtain ⟨y,hy1,hy2,hyr⟩:=i2 x hx hxr
       rw [← hy2] at hq
       exact apart_of hh.inj hl (real_ole h1 hr1) y hy1 hyr p q hp hq
     · rcases List.mem_cons.1 hx with hx1|hx1
       · rw [hx1] at hxr ⊢;exact ⟨_,look_mem hl,rfl,real_ole h1 hxr⟩
       · obtain ⟨y,hy1,hy2,hyr⟩:=i2 x hx1 hxr
         exact ⟨y,rem_sub.subset hy1,hy2,hyr⟩
     · rcases List.mem_cons.1 hx with hx1|hx1
       · rw [hx1] at hp hxr
         exact apart_of hh.inj hl (real_ole h1 hxr) y (minus_sub.subset hy) hyr p q hp hq
       · exact i3 x hx1 hxr y hy hyr p q hp hq
   · exact h1.elim
def Cell.flat:Cell→Prop
 | .t (.v _)=>True
 | .t _=>False
 | .tp _ _ _=>False
 | _=>True
def allP {α:Type} (p:α→Prop):List α→Prop
 | []=>True
 | x ::r=>p x∧allP p r
def A1.flat:A1→Prop
 | .c x=>x.flat
 | .g l=>allP Cell.flat l
def AV.flat:AV→Prop
 | .o x=>x.flat
 | .tup l=>allP A1.flat l
def AObj.flat:AObj→Prop
 | .box l=>allP Cell.flat l
 | .row wd n f=>∀ i,i < n→∀ j,j < wd→(f i j).flat
 | .raw _=>True
 | .glob _ _=>True
 | .tbx _ l=>allP Cell.flat l
def hflat:Heap→Prop
 | []=>True
 | (_,o) ::r=>o.flat∧hflat r
theorem flat_cell {w:World} {A A':Nat→Prop} {ρ:Rho} {x:Cell} {y:Value} (h:x.flat) (hx:x.At w A ρ y):x.At w A' ρ y:=by
 cases x with
 | t x=>cases x with
   | v x=>exact hx
   | sl _ _ _=>exact h.elim
   | ptr _ _=>exact h.elim
 | tp _ _ _=>exact h.elim
 | ptr _ _ _ _=>exact hx
 | sl _ _ _ _=>exact hx
 | mp _=>exact hx
 | ch _=>exact hx
 | fp _ _ _ _ _ _=>exact hx
theorem flat_cells {w:World} {A A':Nat→Prop} {ρ:Rho}:∀ {l:List Cell} {m:List Value},allP Cell.flat l→All2 (Cell.At w A ρ) l m→All2 (Cell.At w A' ρ) l m
 | [],[],_,_=>trivial
 | [],_ ::_,_,x=>x.elim
 | _ ::_,[],_,x=>x.elim
 | _ ::_,_ ::_,⟨h1,h2⟩,⟨x,y⟩=>⟨flat_cell h1 x,flat_cells h2 y⟩
theorem flat_a1 {w:World} {A A':Nat→Prop} {ρ:Rho} {x:A1} {y:Value} (h:x.flat) (hx:x.At w A ρ y):x.At w A' ρ y:=by
 cases x with
 | c x=>exact flat_cell h hx
 | g l=>obtain ⟨cs,rfl,hall⟩:=hx;exact ⟨cs,rfl,flat_cells h hall⟩
theorem flat_a1s {w:World} {A A':Nat→Prop} {ρ:Rho}:∀ {l:List A1} {m:List Value},allP A1.flat l→All2 (A1.At w A ρ) l m→All2 (A1.At w A' ρ) l m
 | [],[],_,_=>trivial
 | [],_ ::_,_,x=>x.elim
 | _ ::_,[],_,x=>x.elim
 | _ ::_,_ ::_,⟨h1,h2⟩,⟨x,y⟩=>⟨flat_a1 h1 x,flat_a1s h2 y⟩
theorem flat_av {w:World} {A A':Nat→Prop} {ρ:Rho} {x:AV} {y:Value} (h:x.flat) (hx:x.At w A ρ y):x.At w A' ρ y:=by
 cases x with
 | o x=>exact flat_a1 h hx
 | tup l=>obtain ⟨cs,rfl,hall⟩:=hx;exact ⟨cs,rfl,flat_a1s h hall⟩
theorem flat_obj {w:World} {A A':Nat→Prop} {ρ:Rho} {x:AObj} {b m:Nat} (h:x.flat) (hx:x.At w A ρ b m):x.At w A' ρ b m:=by
 cases x with
 | box l=>obtain ⟨cs,e,h1,h2,hall⟩:=hx;exact ⟨cs,e,h1,h2,flat_cells h hall⟩
 | row wd n f =>
   obtain ⟨cs,e,h1,h2,h3,hall⟩:=hx
   refine ⟨cs,e,h1,h2,h3,fun i hi j hj=>?_⟩
   obtain ⟨u,hu1,hu2⟩:=hall i hi j hj
   exact ⟨u,hu1,flat_cell (h i hi j hj) hu2⟩
 | raw o=>exact hx
 | glob g v=>exact hx
 | tbx e l=>obtain ⟨cs,h1,h2,hall⟩:=hx;exact ⟨cs,h1,h2,flat_cells h hall⟩
theorem hflat_mem:∀ {H:Heap},hflat H→∀ x ∈ H,x.2.flat
 | [],_,x,hx=>(by cases hx)
 | (k,o) ::r,h,x,hx=>by
   rcases List.mem_cons.1 hx with hx1|hx1
   · rw [hx1];exact h.1
   · exact hflat_mem h.2 x hx1
theorem ACall.of {α:Type} {P:Program} {f:FuncId} {args args':List A1} {s:St} {H:Heap} {p:α→Prop} {H':α→Heap} {res:α→AV} {k':Nat} {K:AV→Heap→Nat→Prop} (view:Prop) (hc:CallX P f args' H s.nx p res H' k')
   (hargs:args=args' ∨ All2 (a1le s.h (fun h=>view∧∃ o,look h s.h=some o∧look h (minus s.h H)=some o) [] s.nx) args args') (hH:hsub s.nx s.h H) (hflat:view→∀ x,p x→(res x).flat∧hflat (H' x)) (hK:∀ x,p x→K (res x) (H' x++minus s.h H) k'):ACall P f args s K:=by
 obtain ⟨hf,hkk,hc⟩:=hc
 refine ⟨hf,fun c a w A ρ vs hr hvs=>?_⟩
 obtain ⟨hHat,hHdom,hHap⟩:=hsub_split hr.new hr.heap hH
 let fz:Nat→Prop:=fun h=>view∧∃ o,look h s.h=some o∧look h (minus s.h H)=some o
 let AA:Nat→Prop:=fun b=>A b ∨ ∃ h o,view∧look h s.h=some o∧look h (minus s.h H)=some o∧o.real∧∃ m,ρ h=some (b,m)
 have hAA:∀ b,A b→AA b:=fun b h=>.inl h
 have hfz:∀ h o,fz h→look h s.h=some o→o.real→∀ b m,ρ h=some (b,m)→AA b:=by
   rintro h o ⟨hv,o1,ho1,ho2⟩ ho hor b m hk
   rw [ho1] at ho;injection ho with ho;subst ho
   exact .inr ⟨h,_,hv,ho1,ho2,hor,m,hk⟩
 have hvs':All2 (A1.At w AA ρ) args' vs.toList:=by
   have hs:∀ (x y:A1) (z:Value),a1le s.h fz [] s.nx x y→x.At w A ρ z→y.At w AA ρ z:=by
     intro x y z h1 h2
     have:=a1le_sound hr.heap hAA hfz h1 h2
     rw [rhoR_nil hr.new] at this;exact this
   rcases hargs with rfl|hargs
   · exact All2.mono (fun _ _ h=>A1.At.mono hAA (fun _ _=>rfl) (fun _ _ h=>h) h) hvs
   · exact All2.trans (S:=a1le s.h fz [] s.nx) (R:=A1.At w A ρ) (fun x y z h1 h2=>hs x y z h1 h2) hargs hvs
 have hblk:∀ h o,look h (minus s.h H)=some o→o.real→∀ b m,ρ h=some (b,m)→b < w.heap.size∧¬ A b∧(c.F b ∨ c.w0.heap.size≤b):=by
   rintro h o ho hor b m hk
   have hm:=look_mem ho
   obtain ⟨b',m',hk',_,h3,h4⟩:=hr.heap.objs _ (minus_sub.subset hm) hor
   rw [hk] at hk';injection hk' with hk';injection hk' with e1 e2;subst e1
   exact ⟨h4,h3,hr.own _ (minus_sub.subset hm) hor _ _ hk⟩
 have hHat':HeapAt w AA ρ H:=by
   refine ⟨fun x hx hxr=>?_,hHat.inj⟩
   obtain ⟨b,m,h1,h2,h3,h4⟩:=hHat.objs x hx hxr
   refine ⟨b,m,h1,h2.mono hAA (fun _ _=>rfl) (fun _ _ h=>h) rfl,?_,h4⟩
   rintro (hb|⟨h,o,_,_,ho,hor,m',hk⟩)
   · exact h3 hb
   · exact hHap x hx hxr _ (look_mem ho) hor (b,m) (b,m') h1 hk rfl
 refine (hc w AA ρ vs hvs' hHat' ?_ hr.new).mono ?_
 · rintro b (hb|⟨h,o,_,_,ho,hor,m,hk⟩)
   · exact (hr.imm b hb).1
   · exact (hblk h o ho hor b m hk).1
 rintro e w' ⟨x0,y,A',ρ',hpx,rfl,hres,hH',hos,htape,hout,hsz,hframe,himm,hown,hlow,hhigh⟩
 have hflat:=fun hv=>hflat hv x0 hpx
 have hHdom':∀ b,blkOf ρ H b→b < w.heap.size∧¬ A b∧(c.F b ∨ c.w0.heap.size≤b):=by
   rintro b ⟨x,hx,hxr,m,hk⟩
   obtain ⟨b',m',hk',_,h3,h4⟩:=hHat.objs x hx hxr
   rw [hk] at hk';injection hk' with hk';injection hk' with e1 e2;subst e1
   obtain ⟨y,hy1,hy2,hyr⟩:=hHdom x hx hxr
   exact ⟨h4,h3,hr.own y hy1 hyr b m (by rw [hy2];exact hk)⟩
 have hρ:∀ k b,ρ k=some b→ρ' k=some b:=by
   intro k b hk
   have:k < s.nx:=by
     by_cases h:k < s.nx
     · exact h
     · rw [hr.new k (by omega)] at hk;cases hk
   rw [hlow k this];exact hk
 -- the trees that are left
 let A2:Nat→Prop:=fun b=>A b ∨ (¬ view∧A' b)
 have hA2:∀ b,A2 b→b < w'.heap.size∧(A b ∨ c.F b ∨ c.w0.heap.size≤b):=by
   rintro b (hb|⟨hv,hb⟩)
   · exact ⟨Nat.lt_of_lt_of_le (hr.imm b hb).1 hsz,.inl hb⟩
   · obtain ⟨h1,h2⟩:=himm b hb
     refine ⟨h1,?_⟩
     rcases h2 with (h2|⟨h,o,hh,_⟩)|h2|h2
     · exact .inl h2
     · exact absurd hh hv
     · exact .inr (hHdom' b h2).2.2
     · exact .inr (.inr (Nat.le_trans hr.size h2))
 have hres2:(res x0).At w' A2 ρ' y:=by
   by_cases hv:view
   · exact flat_av (hflat hv).1 hres
   · exact hres.mono (fun b hb=>.inr ⟨hv,hb⟩) (fun _ _=>rfl) (fun _ _ h=>h)
 have hobj2:∀ x ∈ H' x0,∀ b m,x.2.At w' A' ρ' b m→x.2.At w' A2 ρ' b m:=by
   intro x hx b m h
   by_cases hv:view
   · exact flat_obj (hflat_mem (hflat hv).2 x hx) h
   · exact h.mono (fun b hb=>.inr ⟨hv,hb⟩) (fun _ _=>rfl) (fun _ _ h=>h) rfl
 have hnotH:∀ b,b < w.heap.size→¬ blkOf ρ H b→w'.heap[b]? = w.heap[b]?:=hframe
 have hAkeep:∀ b,A b→w'.heap[b]? = w.heap[b]?:=by
   intro b hb
   exact hnotH b (hr.imm b hb).1 (fun hk=>(hHdom' b hk).2.1 hb)
 have hrest:∀ x ∈ minus s.h H,x ∈ s.h:=fun x hx=>minus_sub.subset hx
 have hrestkeep:∀ x ∈ minus s.h H,x.2.real→∀ b m,ρ x.1=some (b,m)→w'.heap[b]? = w.heap[b]?:=by
   intro x hx hxr b m hk
   obtain ⟨b',m',hk',_,_,h4⟩:=hr.heap.objs x (hrest x hx) hxr
   rw [hk] at hk';injection hk' with hk';injection hk' with e1 e2;subst e1
   refine hnotH b h4 ?_
   rintro ⟨y,hy,hyr,m',hk2⟩
   exact hHap y hy hyr x hx hxr _ _ hk2 hk rfl
 refine ⟨y,res x0,H' x0++minus s.h H,k',A2,ρ',rfl,hK x0 hpx,?_,hres2⟩
 refine hr.change (blk:=blkOf ρ H) hos htape hout hsz hnotH ?_ (fun b hb=>.inl hb) hA2 hρ hhigh hlow hkk ?_ ?_
 · intro b hb _
   exact ⟨(hHdom' b hb).2.2,(hHdom' b hb).2.1⟩
 · intro x hx hxr b m hk
   rcases List.mem_append.1 hx with hx|hx
   · rcases hown x hx hxr b m hk with h2|h2
     · exact (hHdom' b h2).2.2
     · exact .inr (Nat.le_trans hr.size h2)
   · obtain ⟨b',m',hk',_⟩:=hr.heap.objs x (hrest x hx) hxr
     rw [hρ _ _ hk'] at hk;injection hk with hk;injection hk with e1 e2;subst e1;subst e2
     exact hr.own x (hrest x hx) hxr _ _ hk'
 · refine ⟨fun x hx hxr=>?_,?_⟩
   · rcases List.mem_append.1 hx with hx|hx
     · obtain ⟨b,m,h1,h2,h3,h4⟩:=hH'.objs x hx hxr
       refine ⟨b,m,h1,hobj2 x hx b m h2,?_,h4⟩
       rintro (hb|⟨_,hb⟩)
       · rcases hown x hx hxr b m h1 with h5|h5
         · exact (hHdom' b h5).2.1 hb
         · have:=(hr.imm b hb).1;omega
       · exact h3 hb
     · obtain ⟨b,m,h1,h2,h3,h4⟩:=hr.heap.objs x (hrest x hx) hxr
       refine ⟨b,m,hρ _ _ h1,h2.mono (fun b hb=>.inl hb) hAkeep hρ (hrestkeep x hx hxr b m h1),?_,Nat.lt_of_lt_of_le h4 hsz⟩
       rintro (hb|⟨hv,hb⟩)
       · exact h3 hb
       · rcases (himm b hb).2 with (h5|⟨h,o,hh,_⟩)|⟨z,hz,hzr,m',hz2⟩|h5
         · exact h3 h5
         · exact hv hh
         · exact hHap z hz hzr x hx hxr _ _ hz2 h1 rfl
         · omega
   · rw [List.pairwise_append]
     refine ⟨hH'.inj,?_,?_⟩
     · refine List.Pairwise.imp_of_mem ?_ (hr.heap.inj.sublist (minus_sub (H:=H)))
       intro x z hx hz hxz hxr hzr p q hp hq
       obtain ⟨b1,m1,e1,_⟩:=hr.heap.objs x (hrest x hx) hxr
       obtain ⟨b2,m2,e2,_⟩:=hr.heap.objs z (hrest z hz) hzr
       rw [hρ _ _ e1] at hp;rw [hρ _ _ e2] at hq
       injection hp with hp;injection hq with hq;subst hp;subst hq
       exact hxz hxr hzr _ _ e1 e2
     · intro x hx z hz hxr hzr p q hp hq
       obtain ⟨b2,m2,e2,_,_,h4⟩:=hr.heap.objs z (hrest z hz) hzr
       rw [hρ _ _ e2] at hq;injection hq with hq;subst hq
       obtain ⟨b1,m1⟩:=p
       rcases hown x hx hxr b1 m1 hp with ⟨u,hu,hur,m',hu2⟩|h5
       · exact hHap u hu hur z hz hzr (b1,m') (b2,m2) hu2 e2
       · show b1 ≠ b2
         omega
theorem ACall.of0 {α:Type} {P:Program} {f:FuncId} {args:List A1} {s:St} {H:Heap} {p:α→Prop} {H':α→Heap} {res:α→AV} {k':Nat} {K:AV→Heap→Nat→Prop} (hc:CallX P f args H s.nx p res H' k')
   (hH:hsub s.nx s.h H) (hK:∀ x,p x→K (res x) (H' x++minus s.h H) k'):ACall P f args s K:=ACall.of False hc (.inl rfl) hH (fun h=>h.elim) hK
def rnF (σ:List Nat) (N:Nat) (h:Nat):Nat:=match σ[h]? with
 | some x=>x
 | none=>N+(h - σ.length)
def Cell.ren (g:Nat→Nat):Cell→Cell
 | .t x=>.t x
 | .ptr h wd i j=>.ptr (g h) wd i j
 | .sl h wd s n=>.sl (g h) wd s n
 | .tp wd f j=>.tp wd f j
 | .mp h=>.mp (g h)
 | .ch h=>.ch (g h)
 | .fp q f h wd i j=>.fp q f (g h) wd i j
def A1.ren (g:Nat→Nat):A1→A1
 | .c x=>.c (x.ren g)
 | .g l=>.g (l.map (Cell.ren g))
def AV.ren (g:Nat→Nat):AV→AV
 | .o x=>.o (x.ren g)
 | .tup l=>.tup (l.map (A1.ren g))
def AObj.ren (g:Nat→Nat):AObj→AObj
 | .box l=>.box (l.map (Cell.ren g))
 | .row wd n f=>.row wd n fun i j=>(f i j).ren g
 | .raw o=>.raw o
 | .glob g v=>.glob g v
 | .tbx e l=>.tbx e (l.map (Cell.ren g))
def hren (g:Nat→Nat):Heap→Heap
 | []=>[]
 | (h,o) ::r=>(g h,o.ren g) ::hren g r
theorem All2.map_iff {α β γ:Type} {R:γ→β→Prop} {S:α→β→Prop} {g:α→γ} (h:∀ a b,R (g a) b ↔ S a b):∀ {l:List α} {m:List β},All2 R (l.map g) m ↔ All2 S l m
 | [],[]=>Iff.rfl
 | [],_ ::_=>Iff.rfl
 | _ ::_,[]=>Iff.rfl
 | a ::l,b ::m=>by simp only [List.map_cons,All2,h,All2.map_iff h (l:=l) (m:=m)]
section ren
variable {w:World} {A:Nat→Prop} {ρ:Rho} {g:Nat→Nat}
theorem Cell.ren_at {x:Cell} {y:Value}:(x.ren g).At w A ρ y ↔ x.At w A (fun h=>ρ (g h)) y:=by cases x<;>exact Iff.rfl
theorem A1.ren_at {x:A1} {y:Value}:(x.ren g).At w A ρ y ↔ x.At w A (fun h=>ρ (g h)) y:=by
 cases x with
 | c x=>exact Cell.ren_at
 | g l=>simp only [A1.ren,A1.At,All2.map_iff (S:=Cell.At w A fun h=>ρ (g h)) (fun a b=>Cell.ren_at)]
theorem AV.ren_at {x:AV} {y:Value}:(x.ren g).At w A ρ y ↔ x.At w A (fun h=>ρ (g h)) y:=by
 cases x with
 | o x=>exact A1.ren_at
 | tup l=>simp only [AV.ren,AV.At,All2.map_iff (S:=A1.At w A fun h=>ρ (g h)) (fun a b=>A1.ren_at)]
theorem AObj.ren_at {x:AObj} {b m:Nat}:(x.ren g).At w A ρ b m ↔ x.At w A (fun h=>ρ (g h)) b m:=by
 cases x with
 | box l=>simp only [AObj.ren,AObj.At,All2.map_iff (S:=Cell.At w A fun h=>ρ (g h)) (fun a b=>Cell.ren_at)]
 | row wd n f=>simp only [AObj.ren,AObj.At,Cell.ren_at]
 | raw o=>exact Iff.rfl
 | glob g v=>exact Iff.rfl
 | tbx e l=>simp only [AObj.ren,AObj.At,All2.map_iff (S:=Cell.At w A fun h=>ρ (g h)) (fun a b=>Cell.ren_at)]
theorem AObj.ren_real {x:AObj}:(x.ren g).real ↔ x.real:=by cases x<;>exact Iff.rfl
theorem mem_hren:∀ {H:Heap} {x:Nat × AObj},x ∈ hren g H ↔ ∃ y ∈ H,x=(g y.1,y.2.ren g)
 | [],x=>by simp [hren]
 | (h,o) ::r,x=>by
   simp only [hren,List.mem_cons,mem_hren (H:=r)]
   constructor
   · rintro (rfl|⟨y,hy,rfl⟩)
     · exact ⟨(h,o),.inl rfl,rfl⟩
     · exact ⟨y,.inr hy,rfl⟩
   · rintro ⟨y,rfl|hy,rfl⟩
     · exact .inl rfl
     · exact .inr ⟨y,hy,rfl⟩
theorem hren_pair {R:Nat × AObj→Nat × AObj→Prop}:∀ {H:Heap},(hren g H).Pairwise R ↔ H.Pairwise fun x y=>R (g x.1,x.2.ren g) (g y.1,y.2.ren g)
 | []=>by simp [hren]
 | (h,o) ::r=>by
   simp only [hren,List.pairwise_cons,hren_pair (H:=r),mem_hren]
   constructor
   · rintro ⟨h1,h2⟩;exact ⟨fun y hy=>h1 _ ⟨y,hy,rfl⟩,h2⟩
   · rintro ⟨h1,h2⟩;exact ⟨fun y ⟨z,hz,e⟩=>e ▸ h1 z hz,h2⟩
theorem HeapAt.ren_iff {H:Heap}:HeapAt w A ρ (hren g H) ↔ HeapAt w A (fun h=>ρ (g h)) H:=by
 constructor
 · intro h
   refine ⟨fun x hx hxr=>?_,?_⟩
   · obtain ⟨b,m,h1,h2,h3⟩:=h.objs (g x.1,x.2.ren g) (mem_hren.2 ⟨x,hx,rfl⟩) (AObj.ren_real.2 hxr)
     exact ⟨b,m,h1,AObj.ren_at.1 h2,h3⟩
   · exact (hren_pair.1 h.inj).imp fun {a b} h1 h2 h3=>h1 (AObj.ren_real.2 h2) (AObj.ren_real.2 h3)
 · intro h
   refine ⟨fun x hx hxr=>?_,?_⟩
   · obtain ⟨y,hy,rfl⟩:=mem_hren.1 hx
     obtain ⟨b,m,h1,h2,h3⟩:=h.objs y hy (AObj.ren_real.1 hxr)
     exact ⟨b,m,h1,AObj.ren_at.2 h2,h3⟩
   · exact hren_pair.2 (h.inj.imp fun {a b} h1 h2 h3=>h1 (AObj.ren_real.1 h2) (AObj.ren_real.1 h3))
theorem blkOf_ren {H:Heap} {b:Nat}:blkOf ρ (hren g H) b ↔ blkOf (fun h=>ρ (g h)) H b:=by
 constructor
 · rintro ⟨x,hx,hxr,m,hm⟩
   obtain ⟨y,hy,rfl⟩:=mem_hren.1 hx
   exact ⟨y,hy,AObj.ren_real.1 hxr,m,hm⟩
 · rintro ⟨y,hy,hyr,m,hm⟩
   exact ⟨_,mem_hren.2 ⟨y,hy,rfl⟩,AObj.ren_real.2 hyr,m,hm⟩
end ren
theorem rnF_lt {σ:List Nat} {N h x:Nat} (e:σ[h]? = some x):rnF σ N h=x:=by simp [rnF,e]
theorem rnF_ge {σ:List Nat} {N h:Nat} (e:σ.length≤h):rnF σ N h=N+(h - σ.length):=by simp [rnF,List.getElem?_eq_none e]
theorem CallX.ren {α:Type} {P:Program} {f:FuncId} {args:List A1} {H:Heap} {p:α→Prop} {res:α→AV} {H':α→Heap} {k':Nat} (σ:List Nat) (N:Nat) (hσ:allP (fun x=>x < N) σ)
   (hc:CallX P f args H σ.length p res H' k') :
   CallX P f (args.map (A1.ren (rnF σ N))) (hren (rnF σ N) H) N p (fun x=>(res x).ren (rnF σ N)) (fun x=>hren (rnF σ N) (H' x)) (N+(k' - σ.length)):=by
 obtain ⟨hf,hk,hc⟩:=hc
 have hσ':∀ (h x:Nat),σ[h]? = some x→x < N:=by
   have:∀ {l:List Nat},allP (fun x=>x < N) l→∀ x ∈ l,x < N:=by
     intro l
     induction l with
     | nil=>intro _ x hx;cases hx
     | cons y l ih =>
       intro hl x hx
       rcases List.mem_cons.1 hx with e|e
       · rw [e];exact hl.1
       · exact ih hl.2 x e
   exact fun h x e=>this hσ x (List.mem_of_getElem? e)
 refine ⟨hf,Nat.le_add_right _ _,fun w A ρ vs hvs hH hA hρ=>?_⟩
 refine (hc w A (fun h=>ρ (rnF σ N h)) vs ((All2.map_iff fun a b=>A1.ren_at).1 hvs) (HeapAt.ren_iff.1 hH) hA (fun h hh=>hρ _ (by rw [rnF_ge hh];omega))).mono ?_
 rintro e w' ⟨x,v,A',ρ',hp,rfl,hres,hH',hos,htape,hout,hsz,hframe,himm,hown,hlow,hhigh⟩
 let ρ2:Rho:=fun h=>if h < N then ρ h else ρ' (σ.length+(h - N))
 have e2:(fun h=>ρ2 (rnF σ N h))=ρ':=by
   funext h
   cases hs:σ[h]? with
   | some x =>
     have hlt:h < σ.length:=(List.getElem?_eq_some_iff.1 hs).1
     rw [rnF_lt hs,hlow h hlt,rnF_lt hs]
     simp only [ρ2];rw [if_pos (hσ' h x hs)]
   | none =>
     have hge:σ.length≤h:=by simpa using hs
     rw [rnF_ge hge]
     simp only [ρ2];rw [if_neg (by omega)]
     congr 1;omega
 refine ⟨x,v,A',ρ2,hp,rfl,AV.ren_at.2 (by rw [e2];exact hres),HeapAt.ren_iff.2 (by rw [e2];exact hH'),hos,htape,hout,hsz,fun b hb hn=>hframe b hb (fun h=>hn (blkOf_ren.2 h)),?_,?_,?_,?_⟩
 · intro b hb
   obtain ⟨h1,h2⟩:=himm b hb
   exact ⟨h1,h2.imp id (Or.imp blkOf_ren.2 id)⟩
 · intro y hy hyr b m hb
   obtain ⟨z,hz,rfl⟩:=mem_hren.1 hy
   have hb':ρ' z.1=some (b,m):=by rw [← hb,← e2]
   exact (hown z hz (AObj.ren_real.1 hyr) b m hb').imp blkOf_ren.2 id
 · intro h hh
   simp only [ρ2];rw [if_pos hh]
 · intro h hh
   simp only [ρ2];rw [if_neg (by omega)]
   exact hhigh _ (by omega)
section
variable {α:Type} {P:Program} {ti:Nat→Option TI} {ops:List Oper} {rest:List Oper} {s:St} {K:St→Prop} {dst:Option Nat} {f:FuncId} {args args':List A1} {H:Heap} {p:α→Prop} {H':α→Heap} {res:α→AV} {k':Nat}
theorem ACall.at (σ:List Nat) (hc:CallX P f args' H σ.length p res H' k') {K:AV→Heap→Nat→Prop} (ha:args=args'.map (A1.ren (rnF σ s.nx)))
   (hσ:allP (fun x=>x < s.nx) σ) (hH:hsub s.nx s.h (hren (rnF σ s.nx) H)) (hK:∀ x,p x→K ((res x).ren (rnF σ s.nx)) (hren (rnF σ s.nx) (H' x)++minus s.h (hren (rnF σ s.nx) H)) (s.nx+(k' - σ.length))):ACall P f args s K :=
 ha ▸ ACall.of0 (hc.ren σ s.nx hσ) hH hK
theorem ACall.view (σ:List Nat) (hc:CallX P f args' H σ.length p res H' k') {K:AV→Heap→Nat→Prop}
   (ha:All2 (a1le s.h (fun h=>True∧∃ o,look h s.h=some o∧look h (minus s.h (hren (rnF σ s.nx) H))=some o) [] s.nx) args (args'.map (A1.ren (rnF σ s.nx))))
   (hσ:allP (fun x=>x < s.nx) σ) (hH:hsub s.nx s.h (hren (rnF σ s.nx) H)) (hf:∀ x,p x→((res x).ren (rnF σ s.nx)).flat∧hflat (hren (rnF σ s.nx) (H' x)))
   (hK:∀ x,p x→K ((res x).ren (rnF σ s.nx)) (hren (rnF σ s.nx) (H' x)++minus s.h (hren (rnF σ s.nx) H)) (s.nx+(k' - σ.length))):ACall P f args s K :=
 ACall.of True (hc.ren σ s.nx hσ) (.inr ha) hH (fun _=>hf) hK
theorem runS_at (σ:List Nat) (hc:CallX P f args' H σ.length p res H' k') (ha:args=args'.map (A1.ren (rnF σ s.nx)))
   (hσ:allP (fun x=>x < s.nx) σ) (hH:hsub s.nx s.h (hren (rnF σ s.nx) H))
   (hK:∀ x,p x→runR P ti ops rest ({ s with h:=hren (rnF σ s.nx) (H' x)++minus s.h (hren (rnF σ s.nx) H),nx:=s.nx+(k' - σ.length) }.put dst ((res x).ren (rnF σ s.nx))) K):runS P ti ops dst rest s K (.call f args) :=
 runS_call (ACall.at σ hc ha hσ hH hK)
theorem runS_view (σ:List Nat) (hc:CallX P f args' H σ.length p res H' k')
   (ha:All2 (a1le s.h (fun h=>True∧∃ o,look h s.h=some o∧look h (minus s.h (hren (rnF σ s.nx) H))=some o) [] s.nx) args (args'.map (A1.ren (rnF σ s.nx))))
   (hσ:allP (fun x=>x < s.nx) σ) (hH:hsub s.nx s.h (hren (rnF σ s.nx) H)) (hf:∀ x,p x→((res x).ren (rnF σ s.nx)).flat∧hflat (hren (rnF σ s.nx) (H' x)))
   (hK:∀ x,p x→runR P ti ops rest ({ s with h:=hren (rnF σ s.nx) (H' x)++minus s.h (hren (rnF σ s.nx) H),nx:=s.nx+(k' - σ.length) }.put dst ((res x).ren (rnF σ s.nx))) K):runS P ti ops dst rest s K (.call f args) :=
 runS_call (ACall.view σ hc ha hσ hH hf hK)
end
end Go.Hw
namespace Go.Hw
def resL (ti:Nat→Option TI) (s:St):List ResultVar→Option (Prop × List A1)
 | []=>some (True,[])
 | .tmp t ::r=>match look t s.t,resL ti s r with
   | some (.o v),some (p,l)=>some (p,v ::l)
   | _,_=>none
 | .cell a t ::r=>match ti t,look a s.t,resL ti s r with
   | some x,some (.o u),some (p,l)=>match loadA x s.h u with
     | some (q,v)=>some (q∧p,v ::l)
     | none=>none
   | _,_,_=>none
def tupA:List A1→AV
 | [v]=>.o v
 | l=>.tup l
theorem loadA_ptr {x:TI} {h:Heap} {w:World} {A:Nat→Prop} {ρ:Rho} {a:A1} {y:Value} (ha:a.At w A ρ y) {r:Prop × A1} (he:loadA x h a=some r):∃ ad,y=.pointer (some ad):=by
 unfold loadA at he
 split at he
 · obtain ⟨b,m,_,rfl⟩:=ha;exact ⟨_,rfl⟩
 · obtain ⟨b,m,rfl,_⟩:=ha;exact ⟨_,rfl⟩
 · obtain ⟨b,m,rfl,_⟩:=ha;exact ⟨_,rfl⟩
 · obtain ⟨rfl,_⟩:=ha
   unfold globL at he
   split at he
   · exact ⟨_,rfl⟩
   · cases he
 · cases he
def resF (tmps:Array Value):ResultVar→Sem Value
 | .tmp t=>pure (tmps.getD t undef)
 | .cell x t=>do loadVar t (← asAddr (tmps.getD x undef))
theorem results_eq (fn:Func) (tmps:Array Value):results fn tmps=(do let vs ← fn.results.mapM (resF tmps);pure (if h:vs.size=1 then vs[0] else .tuple vs)):=by
 unfold results
 have:(fun x:ResultVar=>match x with
   | .tmp t=>(pure (tmps.getD t undef):Sem Value)
   | .cell a t=>do loadVar t (← asAddr (tmps.getD a undef)))=resF tmps:=by funext x;cases x<;>rfl
 rw [← this];rfl
theorem resL_sound {P:Program} {ti:Nat→Option TI} (hT:TOk P ti) {c:Ctx} {s:St} {a:Act} {w:World} {A:Nat→Prop} {ρ:Rho} (hr:Rep c s a w A ρ) :
   ∀ {rs:List ResultVar} {p:Prop} {l:List A1},resL ti s rs=some (p,l)→p→∃ vs:List Value,(rs.mapM (resF a.tmps)).run P w=.ok vs w∧All2 (A1.At w A ρ) l vs
 | [],p,l,h,_=>by
   simp only [resL,Option.some.injEq,Prod.mk.injEq] at h;obtain ⟨_,rfl⟩:=h
   exact ⟨[],by simp,trivial⟩
 | .tmp t ::rs,p,l,h,hp=>by
   simp only [resL] at h
   split at h
   · rename_i v q l' h1 h2
     simp only [Option.some.injEq,Prod.mk.injEq] at h;obtain ⟨rfl,rfl⟩:=h
     obtain ⟨vs,e1,e2⟩:=resL_sound hT hr h2 hp
     refine ⟨a.tmps.getD t undef ::vs,?_,hr.tmps _ _ h1,e2⟩
     have hc:(resF a.tmps (.tmp t)).run P w=.ok (a.tmps.getD t undef) w:=rfl
     simp only [List.mapM_cons,Sem.run_bind,hc,Sem.run_pure,Result.andThen_ok,e1]
   · cases h
 | .cell x t ::rs,p,l,h,hp=>by
   simp only [resL] at h
   split at h
   · rename_i tx u q l' h0 h1 h2
     split at h
     · rename_i q2 v h3
       simp only [Option.some.injEq,Prod.mk.injEq] at h;obtain ⟨rfl,rfl⟩:=h
       obtain ⟨vs,e1,e2⟩:=resL_sound hT hr h2 hp.2
       have hu:u.At w A ρ (a.tmps.getD x undef):=hr.tmps _ _ h1
       obtain ⟨ad,had⟩:=loadA_ptr hu h3
       obtain ⟨y,hy1,hy2⟩:=loadA_sound (hT _ _ h0) hr.heap hu h3 hp.1
       rw [had] at hy1
       have hy1':(loadVar t ad).run P w=.ok y w:=by simpa [Instr.loadAt,Instr.sureAddr] using hy1
       refine ⟨y ::vs,?_,hy2,e2⟩
       have hc:(resF a.tmps (.cell x t)).run P w=.ok y w:=by
         simp only [resF,had,asAddr,Sem.run_bind,Sem.run_pure,Result.andThen_ok,hy1']
       simp only [List.mapM_cons,Sem.run_bind,hc,Sem.run_pure,Result.andThen_ok,e1]
     · cases h
   · cases h
theorem results_sound {P:Program} {ti:Nat→Option TI} (hT:TOk P ti) {c:Ctx} {s:St} {a:Act} {w:World} {A:Nat→Prop} {ρ:Rho} (hr:Rep c s a w A ρ) {fn:Func} {rs:List ResultVar} (hrs:fn.results=⟨rs⟩) {p:Prop} {l:List A1}
   (h:resL ti s rs=some (p,l)) (hp:p):∃ y,(results fn a.tmps).run P w=.ok y w∧(tupA l).At w A ρ y:=by
 obtain ⟨vs,e1,e2⟩:=resL_sound hT hr h hp
 have hm:(fn.results.mapM (resF a.tmps)).run P w=.ok vs.toArray w:=by
   rw [hrs,Array.mapM_eq_mapM_toList]
   simp only [Sem.run_map,e1,Result.andThen_ok]
 refine ⟨if h:vs.toArray.size=1 then vs.toArray[0] else .tuple vs.toArray,?_,?_⟩
 · rw [results_eq];simp only [Sem.run_bind]
   rw [hm];rfl
 · have hl:=e2.length
   match l,vs,e2,hl with
   | [v],[y],e2,_=>exact e2.1
   | [],[],e2,_=>simpa [tupA] using ⟨#[],rfl,trivial⟩
   | _ ::_ ::_,y ::z ::vs,e2,_ =>
     rw [dif_neg (by simp)]
     exact ⟨_,rfl,e2⟩
def inT:Nat→List A1→List (Nat × AV)
 | _,[]=>[]
 | n,x ::r=>(n,.o x) ::inT (n+1) r
theorem inT_look:∀ {n:Nat} {l:List A1} {k:Nat} {v:AV},look k (inT n l)=some v→∃ x,n≤k∧l[k - n]? = some x∧v=.o x
 | n,[],k,v,h=>by simp [inT,look] at h
 | n,x ::r,k,v,h=>by
   simp only [inT,look,cond_eq_ite] at h
   split at h
   · rename_i e
     have e:n=k:=by simpa using e
     injection h with h;subst h;subst e
     exact ⟨x,Nat.le_refl _,by simp,rfl⟩
   · rename_i e
     obtain ⟨y,h1,h2,h3⟩:=inT_look h
     refine ⟨y,by omega,?_,h3⟩
     rw [show k - n=(k - (n+1))+1 from by omega,List.getElem?_cons_succ];exact h2
def Fin (ti:Nat→Option TI) (rs:List ResultVar) (k:Nat) (res:AV) (H':Heap) (k':Nat) (s:St):Prop :=
 ∃ (τ:List (Nat × Nat)) (fz:Nat→Prop) (p:Prop) (l:List A1),resL ti s rs=some (p,l)∧p∧(∀ x ∈ τ,k≤x.1)∧(∀ h,fz h→∃ o,look h s.h=some o) ∧
   avle s.h fz τ k' (tupA l) res∧hle s.h fz τ k' H'
def finQ {α:Type} (ti:Nat→Option TI) (rs:List ResultVar) (k:Nat) (p:α→Prop) (res:α→AV) (H':α→Heap) (k':Nat):Exit→St→Prop
 | .normal,s=>∃ x,p x∧Fin ti rs k (res x) (H' x) k' s
 | .ret,s=>∃ x,p x∧Fin ti rs k (res x) (H' x) k' s
 | _,_=>False
theorem TV.At.keep {w w':World} {A:Nat→Prop} (hw:∀ b o z,A b→w.cell? ⟨b,o,none⟩=some z→w'.cell? ⟨b,o,none⟩=some z):∀ {x:TV} {y:Value},x.At w A y→x.At w' A y:=by
 intro x
 induction x with
 | v x=>intro y h;exact h
 | sl wd n f ih =>
   rintro y ⟨a,cap,rfl,hcap,h⟩
   refine ⟨a,cap,rfl,hcap,fun i hi=>?_⟩
   obtain ⟨b,o,ha,hb,hc⟩:=h i hi
   refine ⟨b,o,ha,hb,fun j hj=>?_⟩
   obtain ⟨z,hz,hf⟩:=hc j hj
   exact ⟨z,hw b _ z hb hz,ih i j hf⟩
 | ptr wd f ih =>
   rintro y ⟨b,o,rfl,hb,hc⟩
   refine ⟨b,o,rfl,hb,fun j hj=>?_⟩
   obtain ⟨z,hz,hf⟩:=hc j hj
   exact ⟨z,hw b _ z hb hz,ih j hf⟩
section keep
variable {w w':World} {A:Nat→Prop} {ρ:Rho} (hw:∀ b o z,A b→w.cell? ⟨b,o,none⟩=some z→w'.cell? ⟨b,o,none⟩=some z)
include hw
theorem Cell.At.keep {x:Cell} {y:Value} (h:x.At w A ρ y):x.At w' A ρ y:=by
 cases x with
 | t x=>exact TV.At.keep hw h
 | tp wd f j =>
   obtain ⟨b,o,h1,h2,h3⟩:=h
   refine ⟨b,o,h1,h2,fun k hk=>?_⟩
   obtain ⟨z,hz,hf⟩:=h3 k hk
   exact ⟨z,hw b _ z h2 hz,TV.At.keep hw hf⟩
 | _=>exact h
theorem A1.At.keep {x:A1} {y:Value} (h:x.At w A ρ y):x.At w' A ρ y:=by
 cases x with
 | c x=>exact Cell.At.keep hw h
 | g l=>obtain ⟨cs,rfl,h⟩:=h;exact ⟨cs,rfl,All2.mono (fun _ _=>Cell.At.keep hw) h⟩
theorem AV.At.keep {x:AV} {y:Value} (h:x.At w A ρ y):x.At w' A ρ y:=by
 cases x with
 | o x=>exact A1.At.keep hw h
 | tup l=>obtain ⟨cs,rfl,h⟩:=h;exact ⟨cs,rfl,All2.mono (fun _ _=>A1.At.keep hw) h⟩
theorem AObj.At.keep {x:AObj} {b m:Nat} (hb:w'.heap[b]? = w.heap[b]?) (h:x.At w A ρ b m):x.At w' A ρ b m:=by
 cases x with
 | box l =>
   obtain ⟨cs,e,h1,h2,h3⟩:=h
   exact ⟨cs,e,by rw [hb];exact h1,h2,All2.mono (fun _ _=>Cell.At.keep hw) h3⟩
 | row wd n f =>
   obtain ⟨cs,e,h1,h2,h3,h4⟩:=h
   refine ⟨cs,e,by rw [hb];exact h1,h2,h3,fun i hi j hj=>?_⟩
   obtain ⟨z,hz,hf⟩:=h4 i hi j hj
   exact ⟨z,hz,Cell.At.keep hw hf⟩
 | raw o=>exact ⟨by rw [hb];exact h.1,h.2⟩
 | glob g v=>obtain ⟨rfl,h1,h2,h3⟩:=h;exact ⟨rfl,by rw [cell?_of_heap hb];exact h1,h2,by rw [hb];exact h3⟩
 | tbx e l =>
   obtain ⟨cs,h1,h2,h3⟩:=h
   exact ⟨cs,by rw [hb];exact h1,h2,All2.mono (fun _ _=>Cell.At.keep hw) h3⟩
end keep
theorem Rep.turn {c:Ctx} {s:St} {a:Act} {w:World} {A:Nat→Prop} {ρ:Rho} (hr:Rep c s a w A ρ) {D:Nat} {o o':Obj} {ds:List Deferred} (hD:w.heap[D]? = some o) (ho:∀ cs e fr,o ≠ .cells cs e fr) (hA:¬ blkOf ρ s.h D)
   (hlo:c.F D ∨ c.w0.heap.size≤D) (hds:Dfs c A ds (w.putObj D o')):Rep c s { a with defers:=ds } (w.putObj D o') A ρ:=by
 have hoth:∀ b,b ≠ D→(w.putObj D o').heap[b]? = w.heap[b]?:=fun b hb=>World.putObj_heap_other hb
 have hsz:(w.putObj D o').heap.size=w.heap.size:=by simp [World.putObj]
 have hc:∀ b x z,w.cell? ⟨b,x,none⟩=some z→(w.putObj D o').cell? ⟨b,x,none⟩=some z:=by
   intro b x z h
   by_cases e:b=D
   · subst e
     exfalso
     unfold World.cell? at h
     simp only [hD] at h
     cases o<;>first|(exact absurd rfl (ho _ _ _))|simp at h
   · rw [cell?_of_heap (hoth b e)];exact h
 refine { heap:=⟨fun x hx hxr=>?_,hr.heap.inj⟩,tmps:=fun k v hk=>(hr.tmps k v hk).keep (fun b x z _=>hc b x z),nt:=hr.nt,defers:=hds,os:=hr.os,tape:=hr.tape,output:=hr.output,size:=by rw [hsz];exact hr.size,frame:=?_,own:=hr.own,imm:=fun b hb=>by rw [hsz];exact hr.imm b hb,old:=hr.old,new:=hr.new,k0:=hr.k0 }
 · obtain ⟨b,m,h1,h2,h3,h4⟩:=hr.heap.objs x hx hxr
   have hne:b ≠ D:=by rintro rfl;exact hA ⟨x,hx,hxr,m,h1⟩
   exact ⟨b,m,h1,h2.keep (fun b x z _=>hc b x z) (hoth b hne),h3,by rw [hsz];exact h4⟩
 · intro b hb hF
   rw [hoth b (by rintro rfl;rcases hlo with h|h;exact hF h;omega)];exact hr.frame b hb hF
theorem Rep.leave {P:Program} {fn:Func} {R:Ending→World→Prop} {c:Ctx} {s:St} {A:Nat→Prop} {ρ:Rho} (hdm:c.dm=none) (hlo:c.w0.heap.size≤c.lo):∀ (ds:List Deferred) {a:Act} {w:World},a.defers=ds→Rep c s a w A ρ →
   (∀ a' w',a'.tmps=a.tmps→Rep c s a' w' A ρ→∃ v,(results fn a.tmps).run P w'=.ok v w'∧R (.returned v) w')→LeavesInM Fence.wide 0 P fn a.tmps R ds .returning w
 | [],a,w,_,hr,h=>h a w rfl hr
 | d ::ds,a,w,hd,hr,h=>by
   have hm:=hr.defers.marks hdm
   rw [hd] at hm
   obtain ⟨D,h1,h2,h3,h4⟩:=hm.all d (by simp)
   refine ⟨by simp,.inl ⟨D,_,by rw [h1],run_takeDeferred h4,?_⟩⟩
   have hap:=List.pairwise_cons.1 hm.apart
   have hms:Marks c.lo A ds (w.putObj D (.deferred none)):=by
     refine ⟨fun d' hd'=>?_,hap.2⟩
     obtain ⟨D',g1,g2,g3,g4⟩:=hm.all d' (by simp [hd'])
     refine ⟨D',g1,g2,g3,?_⟩
     rw [World.putObj_heap_other];· exact g4
     · rintro rfl;exact hap.1 d' hd' (by rw [h1,g1])
   have hnb:¬ blkOf ρ s.h D:=by
     rintro ⟨x,hx,hxr,m,hk⟩
     obtain ⟨b,m',hk',_,h5,_⟩:=hr.heap.objs x hx hxr
     rw [hk] at hk';injection hk' with hk';injection hk' with e1 e2;subst e1;exact h5 h2
   have hr2:=hr.turn (o':=.deferred none) (ds:=ds) h4 (by simp) hnb (.inr (Nat.le_trans hlo h3)) (Dfs.of hms hdm)
   exact Rep.leave hdm hlo ds (a:={ a with defers:=ds }) rfl hr2 h
theorem CallX.of {α:Type} {P:Program} {ti:Nat→Option TI} (hT:TOk P ti) {f:FuncId} {fn:Func} {code:Code} {rs:List ResultVar} {nt:Nat} {args:List A1} {H:Heap} {k:Nat} {p:α→Prop} {res:α→AV} {H':α→Heap} {k':Nat}
   (hf:P.funcs[f]? = some fn) (hb:fn.body=some code) (hname:(fn.name == "runtime.NumGoroutine")=false) (hnt:fn.ntmps=nt) (hrs:fn.results=⟨rs⟩) (hlen:Nat.ble args.length nt=true) (hk:k≤k')
   (h:∀ c:Ctx,c.nt=nt→c.k0=k→AWp P c code (finQ ti rs k p res H' k') ⟨inT 0 args,H,k⟩):CallX P f args H k p res H' k':=by
 refine ⟨⟨fn,hf,hname,by simp [hb]⟩,hk,fun w A ρ vs hvs hH hA hρ=>?_⟩
 let c:Ctx:={ w0:=w,A0:=A,ρ0:=ρ,k0:=k,F:=blkOf ρ H,nt:=nt,lo:=w.heap.size,hlo:=Nat.le_refl _ }
 have hlen':vs.size≤nt:=by
   have:=hvs.length;simp at this
   have:=Nat.le_of_ble_eq_true hlen
   omega
 have hinit:Abs c ⟨inT 0 args,H,k⟩ { tmps:=vs++Array.replicate (fn.ntmps - vs.size) undef,defers:=[] } w:=by
   refine ⟨A,ρ,{ heap:=hH,tmps:=?_,nt:=by show _=nt;simp [hnt];omega,defers:=Marks.nil,os:=rfl,tape:=rfl,output:=rfl,size:=Nat.le_refl _,frame:=fun _ _ _=>rfl,own:=?_,imm:=?_,old:=fun _ _=>rfl,new:=hρ,k0:=Nat.le_refl _ }⟩
   · intro j v hj
     obtain ⟨x,_,h1,rfl⟩:=inT_look hj
     obtain ⟨y,hy1,hy2⟩:=All2.get hvs h1
     have hy1':vs[j]? = some y:=by simpa using hy1
     have hlt:j < vs.size:=(Array.getElem?_eq_some_iff.1 hy1').1
     have:(vs++Array.replicate (fn.ntmps - vs.size) undef).getD j undef=y:=by
       rw [Array.getD_eq_getD_getElem?,Array.getElem?_append,if_pos hlt,hy1'];rfl
     show A1.At w A ρ x _
     rw [this];exact hy2
   · intro x hx hxr b m hb
     exact .inl ⟨x,hx,hxr,m,hb⟩
   · intro b hb
     exact ⟨hA b hb,.inl hb⟩
 refine callsIn_wide (n:=0).1 (callsIn_of_wp_marks hf hb trivial (wpIn_wide.2 (wp_mono (h c rfl rfl _ w hinit) ?_)))
 rintro e a0 w1 ⟨s,hq,A1,ρ1,hr0⟩
 have key:(∃ x,p x∧Fin ti rs k (res x) (H' x) k' s)→∀ (a':Act) (w':World),a'.tmps=a0.tmps→Rep c s a' w' A1 ρ1→∃ v,(results fn a0.tmps).run P w'=.ok v w'∧∃ x v' A' ρ',p x∧Ending.returned v=.returned v'∧(res x).At w' A' ρ' v'∧HeapAt w' A' ρ' (H' x)∧w'.os=w.os∧w'.tape=w.tape∧w'.output=w.output∧w.heap.size≤w'.heap.size ∧
     (∀ b,b < w.heap.size→¬ blkOf ρ H b→w'.heap[b]? = w.heap[b]?) ∧
     (∀ b,A' b→b < w'.heap.size∧(A b ∨ blkOf ρ H b ∨ w.heap.size≤b)) ∧
     (∀ y ∈ H' x,y.2.real→∀ b m,ρ' y.1=some (b,m)→blkOf ρ H b ∨ w.heap.size≤b) ∧
     (∀ h,h < k→ρ' h=ρ h)∧(∀ h,k'≤h→ρ' h=none):=by
   rintro ⟨x0,hpx,τ,fz,p0,l,h1,h2,h3,h4,h5,h6⟩ a' w' hat hr
   rw [← hat]
   obtain ⟨y,hy1,hy2⟩:=results_sound hT hr hrs h1 h2
   let A':Nat→Prop:=fun b=>A1 b ∨ ∃ h o,fz h∧look h s.h=some o∧o.real∧∃ m,ρ1 h=some (b,m)
   have hAA:∀ b,A1 b→A' b:=fun b hb=>.inl hb
   have hfz:∀ h o,fz h→look h s.h=some o→o.real→∀ b m,ρ1 h=some (b,m)→A' b:=fun h o hh hl hor b m hk=>.inr ⟨h,o,hh,hl,hor,m,hk⟩
   obtain ⟨hH',hdom⟩:=hle_sound hr.heap hAA hfz (fun b hb=>hb) h6
   have hmem:∀ h o b m,look h s.h=some o→o.real→ρ1 h=some (b,m)→(c.F b ∨ c.w0.heap.size≤b)∧b < w'.heap.size:=by
     intro h o b m hl hor hk
     refine ⟨hr.own _ (look_mem hl) hor b m hk,?_⟩
     obtain ⟨b',m',hk',_,_,hlt⟩:=hr.heap.objs _ (look_mem hl) hor
     rw [hk] at hk';injection hk' with hk';injection hk' with e1 e2;subst e1;exact hlt
   refine ⟨y,hy1,x0,y,A',rhoR ρ1 τ k',hpx,rfl,avle_sound hr.heap hAA hfz h5 hy2,hH',hr.os,hr.tape,hr.output,hr.size,?_,?_,?_,?_,?_⟩
   · intro b hb hn
     exact hr.frame b hb hn
   · rintro b (hb|⟨h,o,_,ho,hor,m,hk⟩)
     · exact hr.imm b hb
     · have:=hmem h o b m ho hor hk
       exact ⟨this.2,.inr this.1⟩
   · intro x hx hxr b m hb
     obtain ⟨o,e1,hor,e2⟩:=hdom x hx hxr
     unfold rhoR at hb;rw [if_pos e2] at hb
     exact (hmem _ o b m e1 hor hb).1
   · intro h hh
     have e:rn τ h=h:=by
       unfold rn
       cases hl:look h τ with
       | none=>rfl
       | some x=>have:=h3 _ (look_mem hl);simp at this;omega
     unfold rhoR;rw [if_pos (by omega),e];exact hr.old h hh
   · intro h hh
     unfold rhoR;rw [if_neg (by omega)]
 cases e<;>simp only [finQ] at hq<;>first|exact Rep.leave rfl (Nat.le_refl _) a0.defers rfl hr0 (key hq)|exact hq.elim
end Go.Hw
namespace Go.Hw
open Go.Proofs
def tis:List (Nat × TI):=[
 (1,⟨.sc,1,8,[.nilFunc],false,[]⟩),
 (2,⟨.int .i64,1,8,[.int .i64 0],false,[]⟩),
 (3,⟨.int .i64,1,8,[.int .i64 0],false,[]⟩),
 (4,⟨.bl,1,1,[.bool false],false,[]⟩),
 (5,⟨.int .u8,1,1,[.int .u8 0],false,[]⟩),
 (6,⟨.int .u8,1,1,[.int .u8 0],false,[]⟩),
 (7,⟨.st [(0,2),(1,3),(2,4),(3,6)],4,24,[.int .i64 0,.int .i64 0,.bool false,.int .u8 0],false,[]⟩),
 (8,⟨.st [(0,2),(1,3),(2,4),(3,6)],4,24,[.int .i64 0,.int .i64 0,.bool false,.int .u8 0],false,[]⟩),
 (9,⟨.str,1,16,[.string ⟨#[]⟩],false,[]⟩),
 (11,⟨.str,1,16,[.string ⟨#[]⟩],false,[]⟩),
 (12,⟨.int .u64,1,8,[.int .u64 0],false,[]⟩),
 (13,⟨.st [(0,9),(1,12)],2,24,[.string ⟨#[]⟩,.int .u64 0],false,[]⟩),
 (22,⟨.sli 5,1,24,[.slice none 0 0],false,[]⟩),
 (23,⟨.sli 3,1,24,[.slice none 0 0],false,[]⟩),
 (25,⟨.st [(0,23),(1,23),(2,3)],3,56,[.slice none 0 0,.slice none 0 0,.int .i64 0],false,[]⟩),
 (26,⟨.sli 40,1,24,[.slice none 0 0],false,[]⟩),
 (27,⟨.sli 4,1,24,[.slice none 0 0],false,[]⟩),
 (29,⟨.st [(0,3),(1,3),(2,3),(3,26),(4,27),(5,27),(6,23)],7,120,[.int .i64 0,.int .i64 0,.int .i64 0,.slice none 0 0,.slice none 0 0,.slice none 0 0,.slice none 0 0],false,[]⟩),
 (30,⟨.sli 29,1,24,[.slice none 0 0],false,[]⟩),
 (32,⟨.st [(0,3),(1,25),(4,29),(11,30),(12,23)],13,232,[.int .i64 0,.slice none 0 0,.slice none 0 0,.int .i64 0,.int .i64 0,.int .i64 0,.int .i64 0,.slice none 0 0,.slice none 0 0,.slice none 0 0,.slice none 0 0,.slice none 0 0,.slice none 0 0],false,[]⟩),
 (40,⟨.st [(0,3),(1,3),(2,3),(3,3),(4,3),(5,3),(6,3)],7,56,[.int .i64 0,.int .i64 0,.int .i64 0,.int .i64 0,.int .i64 0,.int .i64 0,.int .i64 0],true,[]⟩),
 (42,⟨.sli 119,1,24,[.slice none 0 0],false,[]⟩),
 (44,⟨.st [(0,42)],1,24,[.slice none 0 0],false,[]⟩),
 (46,⟨.sli 60,1,24,[.slice none 0 0],false,[]⟩),
 (48,⟨.sli 32,1,24,[.slice none 0 0],false,[]⟩),
 (50,⟨.st [(0,48)],1,24,[.slice none 0 0],false,[]⟩),
 (57,⟨.pt,1,8,[.pointer none],false,[]⟩),
 (60,⟨.st [(0,3),(1,3),(2,3),(3,3),(4,40)],11,88,[.int .i64 0,.int .i64 0,.int .i64 0,.int .i64 0,.int .i64 0,.int .i64 0,.int .i64 0,.int .i64 0,.int .i64 0,.int .i64 0,.int .i64 0],false,[]⟩),
 (64,⟨.sc,1,8,[.nilFunc],false,[]⟩),
 (67,⟨.pt,1,8,[.pointer none],false,[]⟩),
 (71,⟨.st [(0,29),(7,3)],8,128,[.int .i64 0,.int .i64 0,.int .i64 0,.slice none 0 0,.slice none 0 0,.slice none 0 0,.slice none 0 0,.int .i64 0],false,[]⟩),
 (83,⟨.sc,1,8,[.nilFunc],false,[]⟩),
 (84,⟨.sc,1,8,[.nilFunc],false,[]⟩),
 (87,⟨.pt,1,8,[.pointer none],false,[]⟩),
 (89,⟨.st [(0,25),(3,3),(4,29),(11,87),(12,3),(13,23)],14,224,[.slice none 0 0,.slice none 0 0,.int .i64 0,.int .i64 0,.int .i64 0,.int .i64 0,.int .i64 0,.slice none 0 0,.slice none 0 0,.slice none 0 0,.slice none 0 0,.pointer none,.int .i64 0,.slice none 0 0],false,[]⟩),
 (94,⟨.st [(0,22),(1,3)],2,32,[.slice none 0 0,.int .i64 0],false,[]⟩),
 (100,⟨.sc,1,8,[.nilFunc],false,[]⟩),
 (109,⟨.st [(0,29),(7,87)],8,128,[.int .i64 0,.int .i64 0,.int .i64 0,.slice none 0 0,.slice none 0 0,.slice none 0 0,.slice none 0 0,.pointer none],false,[]⟩),
 (113,⟨.st [(0,23),(1,23),(2,3)],3,56,[.slice none 0 0,.slice none 0 0,.int .i64 0],false,[]⟩),
 (114,⟨.sli 187,1,24,[.slice none 0 0],false,[]⟩),
 (116,⟨.st [(0,3),(1,3),(2,3),(3,114),(4,27),(5,27),(6,23)],7,120,[.int .i64 0,.int .i64 0,.int .i64 0,.slice none 0 0,.slice none 0 0,.slice none 0 0,.slice none 0 0],false,[]⟩),
 (117,⟨.sli 116,1,24,[.slice none 0 0],false,[]⟩),
 (119,⟨.st [(0,3),(1,113),(4,116),(11,117),(12,23)],13,232,[.int .i64 0,.slice none 0 0,.slice none 0 0,.int .i64 0,.int .i64 0,.int .i64 0,.int .i64 0,.slice none 0 0,.slice none 0 0,.slice none 0 0,.slice none 0 0,.slice none 0 0,.slice none 0 0],false,[]⟩),
 (125,⟨.sc,1,16,[.nilIface],false,[]⟩),
 (164,⟨.st [],0,0,[],false,[("loop.example/hawser/impl.settled",161)]⟩),
 (165,⟨.st [],0,0,[],false,[("loop.example/hawser/impl.settled",162)]⟩),
 (166,⟨.st [],0,0,[],false,[("loop.example/hawser/impl.settled",163)]⟩),
 (167,⟨.sc,1,8,[.nilFunc],false,[]⟩),
 (170,⟨.mp 3 3,1,8,[.map none],false,[]⟩),
 (172,⟨.st [(0,170),(1,170),(2,3)],3,24,[.map none,.map none,.int .i64 0],false,[]⟩),
 (187,⟨.st [(0,3),(1,3),(2,3),(3,3),(4,3),(5,3),(6,3)],7,56,[.int .i64 0,.int .i64 0,.int .i64 0,.int .i64 0,.int .i64 0,.int .i64 0,.int .i64 0],false,[]⟩)
]
def ti (t:Nat):Option TI:=look t tis
@[go_sem] theorem ti_1:ti 1=some ⟨.sc,1,8,[.nilFunc],false,[]⟩:=by kernel_rfl
@[go_sem] theorem ti_2:ti 2=some ⟨.int .i64,1,8,[.int .i64 0],false,[]⟩:=by kernel_rfl
@[go_sem] theorem ti_3:ti 3=some ⟨.int .i64,1,8,[.int .i64 0],false,[]⟩:=by kernel_rfl
@[go_sem] theorem ti_4:ti 4=some ⟨.bl,1,1,[.bool false],false,[]⟩:=by kernel_rfl
@[go_sem] theorem ti_5:ti 5=some ⟨.int .u8,1,1,[.int .u8 0],false,[]⟩:=by kernel_rfl
@[go_sem] theorem ti_6:ti 6=some ⟨.int .u8,1,1,[.int .u8 0],false,[]⟩:=by kernel_rfl
@[go_sem] theorem ti_7:ti 7=some ⟨.st [(0,2),(1,3),(2,4),(3,6)],4,24,[.int .i64 0,.int .i64 0,.bool false,.int .u8 0],false,[]⟩:=by kernel_rfl
@[go_sem] theorem ti_8:ti 8=some ⟨.st [(0,2),(1,3),(2,4),(3,6)],4,24,[.int .i64 0,.int .i64 0,.bool false,.int .u8 0],false,[]⟩:=by kernel_rfl
@[go_sem] theorem ti_9:ti 9=some ⟨.str,1,16,[.string ⟨#[]⟩],false,[]⟩:=by kernel_rfl
@[go_sem] theorem ti_11:ti 11=some ⟨.str,1,16,[.string ⟨#[]⟩],false,[]⟩:=by kernel_rfl
@[go_sem] theorem ti_12:ti 12=some ⟨.int .u64,1,8,[.int .u64 0],false,[]⟩:=by kernel_rfl
@[go_sem] theorem ti_13:ti 13=some ⟨.st [(0,9),(1,12)],2,24,[.string ⟨#[]⟩,.int .u64 0],false,[]⟩:=by kernel_rfl
@[go_sem] theorem ti_22:ti 22=some ⟨.sli 5,1,24,[.slice none 0 0],false,[]⟩:=by kernel_rfl
@[go_sem] theorem ti_23:ti 23=some ⟨.sli 3,1,24,[.slice none 0 0],false,[]⟩:=by kernel_rfl
@[go_sem] theorem ti_25:ti 25=some ⟨.st [(0,23),(1,23),(2,3)],3,56,[.slice none 0 0,.slice none 0 0,.int .i64 0],false,[]⟩:=by kernel_rfl
@[go_sem] theorem ti_26:ti 26=some ⟨.sli 40,1,24,[.slice none 0 0],false,[]⟩:=by kernel_rfl
@[go_sem] theorem ti_27:ti 27=some ⟨.sli 4,1,24,[.slice none 0 0],false,[]⟩:=by kernel_rfl
@[go_sem] theorem ti_29:ti 29=some ⟨.st [(0,3),(1,3),(2,3),(3,26),(4,27),(5,27),(6,23)],7,120,[.int .i64 0,.int .i64 0,.int .i64 0,.slice none 0 0,.slice none 0 0,.slice none 0 0,.slice none 0 0],false,[]⟩:=by kernel_rfl
@[go_sem] theorem ti_30:ti 30=some ⟨.sli 29,1,24,[.slice none 0 0],false,[]⟩:=by kernel_rfl
@[go_sem] theorem ti_32:ti 32=some ⟨.st [(0,3),(1,25),(4,29),(11,30),(12,23)],13,232,[.int .i64 0,.slice none 0 0,.slice none 0 0,.int .i64 0,.int .i64 0,.int .i64 0,.int .i64 0,.slice none 0 0,.slice none 0 0,.slice none 0 0,.slice none 0 0,.slice none 0 0,.slice none 0 0],false,[]⟩:=by kernel_rfl
@[go_sem] theorem ti_40:ti 40=some ⟨.st [(0,3),(1,3),(2,3),(3,3),(4,3),(5,3),(6,3)],7,56,[.int .i64 0,.int .i64 0,.int .i64 0,.int .i64 0,.int .i64 0,.int .i64 0,.int .i64 0],true,[]⟩:=by kernel_rfl
@[go_sem] theorem ti_42:ti 42=some ⟨.sli 119,1,24,[.slice none 0 0],false,[]⟩:=by kernel_rfl
@[go_sem] theorem ti_44:ti 44=some ⟨.st [(0,42)],1,24,[.slice none 0 0],false,[]⟩:=by kernel_rfl
@[go_sem] theorem ti_46:ti 46=some ⟨.sli 60,1,24,[.slice none 0 0],false,[]⟩:=by kernel_rfl
@[go_sem] theorem ti_48:ti 48=some ⟨.sli 32,1,24,[.slice none 0 0],false,[]⟩:=by kernel_rfl
@[go_sem] theorem ti_50:ti 50=some ⟨.st [(0,48)],1,24,[.slice none 0 0],false,[]⟩:=by kernel_rfl
@[go_sem] theorem ti_57:ti 57=some ⟨.pt,1,8,[.pointer none],false,[]⟩:=by kernel_rfl
@[go_sem] theorem ti_60:ti 60=some ⟨.st [(0,3),(1,3),(2,3),(3,3),(4,40)],11,88,[.int .i64 0,.int .i64 0,.int .i64 0,.int .i64 0,.int .i64 0,.int .i64 0,.int .i64 0,.int .i64 0,.int .i64 0,.int .i64 0,.int .i64 0],false,[]⟩:=by kernel_rfl
@[go_sem] theorem ti_64:ti 64=some ⟨.sc,1,8,[.nilFunc],false,[]⟩:=by kernel_rfl
@[go_sem] theorem ti_67:ti 67=some ⟨.pt,1,8,[.pointer none],false,[]⟩:=by kernel_rfl
@[go_sem] theorem ti_71:ti 71=some ⟨.st [(0,29),(7,3)],8,128,[.int .i64 0,.int .i64 0,.int .i64 0,.slice none 0 0,.slice none 0 0,.slice none 0 0,.slice none 0 0,.int .i64 0],false,[]⟩:=by kernel_rfl
@[go_sem] theorem ti_83:ti 83=some ⟨.sc,1,8,[.nilFunc],false,[]⟩:=by kernel_rfl
@[go_sem] theorem ti_84:ti 84=some ⟨.sc,1,8,[.nilFunc],false,[]⟩:=by kernel_rfl
@[go_sem] theorem ti_87:ti 87=some ⟨.pt,1,8,[.pointer none],false,[]⟩:=by kernel_rfl
@[go_sem] theorem ti_89:ti 89=some ⟨.st [(0,25),(3,3),(4,29),(11,87),(12,3),(13,23)],14,224,[.slice none 0 0,.slice none 0 0,.int .i64 0,.int .i64 0,.int .i64 0,.int .i64 0,.int .i64 0,.slice none 0 0,.slice none 0 0,.slice none 0 0,.slice none 0 0,.pointer none,.int .i64 0,.slice none 0 0],false,[]⟩:=by kernel_rfl
@[go_sem] theorem ti_94:ti 94=some ⟨.st [(0,22),(1,3)],2,32,[.slice none 0 0,.int .i64 0],false,[]⟩:=by kernel_rfl
@[go_sem] theorem ti_100:ti 100=some ⟨.sc,1,8,[.nilFunc],false,[]⟩:=by kernel_rfl
@[go_sem] theorem ti_109:ti 109=some ⟨.st [(0,29),(7,87)],8,128,[.int .i64 0,.int .i64 0,.int .i64 0,.slice none 0 0,.slice none 0 0,.slice none 0 0,.slice none 0 0,.pointer none],false,[]⟩:=by kernel_rfl
@[go_sem] theorem ti_113:ti 113=some ⟨.st [(0,23),(1,23),(2,3)],3,56,[.slice none 0 0,.slice none 0 0,.int .i64 0],false,[]⟩:=by kernel_rfl
@[go_sem] theorem ti_114:ti 114=some ⟨.sli 187,1,24,[.slice none 0 0],false,[]⟩:=by kernel_rfl
@[go_sem] theorem ti_116:ti 116=some ⟨.st [(0,3),(1,3),(2,3),(3,114),(4,27),(5,27),(6,23)],7,120,[.int .i64 0,.int .i64 0,.int .i64 0,.slice none 0 0,.slice none 0 0,.slice none 0 0,.slice none 0 0],false,[]⟩:=by kernel_rfl
@[go_sem] theorem ti_117:ti 117=some ⟨.sli 116,1,24,[.slice none 0 0],false,[]⟩:=by kernel_rfl
@[go_sem] theorem ti_119:ti 119=some ⟨.st [(0,3),(1,113),(4,116),(11,117),(12,23)],13,232,[.int .i64 0,.slice none 0 0,.slice none 0 0,.int .i64 0,.int .i64 0,.int .i64 0,.int .i64 0,.slice none 0 0,.slice none 0 0,.slice none 0 0,.slice none 0 0,.slice none 0 0,.slice none 0 0],false,[]⟩:=by kernel_rfl
@[go_sem] theorem ti_125:ti 125=some ⟨.sc,1,16,[.nilIface],false,[]⟩:=by kernel_rfl
@[go_sem] theorem ti_164:ti 164=some ⟨.st [],0,0,[],false,[("loop.example/hawser/impl.settled",161)]⟩:=by kernel_rfl
@[go_sem] theorem ti_165:ti 165=some ⟨.st [],0,0,[],false,[("loop.example/hawser/impl.settled",162)]⟩:=by kernel_rfl
@[go_sem] theorem ti_166:ti 166=some ⟨.st [],0,0,[],false,[("loop.example/hawser/impl.settled",163)]⟩:=by kernel_rfl
@[go_sem] theorem ti_167:ti 167=some ⟨.sc,1,8,[.nilFunc],false,[]⟩:=by kernel_rfl
@[go_sem] theorem ti_170:ti 170=some ⟨.mp 3 3,1,8,[.map none],false,[]⟩:=by kernel_rfl
@[go_sem] theorem ti_172:ti 172=some ⟨.st [(0,170),(1,170),(2,3)],3,24,[.map none,.map none,.int .i64 0],false,[]⟩:=by kernel_rfl
@[go_sem] theorem ti_187:ti 187=some ⟨.st [(0,3),(1,3),(2,3),(3,3),(4,3),(5,3),(6,3)],7,56,[.int .i64 0,.int .i64 0,.int .i64 0,.int .i64 0,.int .i64 0,.int .i64 0,.int .i64 0],false,[]⟩:=by kernel_rfl
theorem tf_1:TFact Try.prog 1 ⟨.sc,1,8,[.nilFunc],false,[]⟩:=⟨by kernel_rfl,by kernel_rfl,by kernel_rfl,by kernel_rfl⟩
theorem tf_2:TFact Try.prog 2 ⟨.int .i64,1,8,[.int .i64 0],false,[]⟩:=⟨by kernel_rfl,by kernel_rfl,by kernel_rfl,by kernel_rfl⟩
theorem tf_3:TFact Try.prog 3 ⟨.int .i64,1,8,[.int .i64 0],false,[]⟩:=⟨by kernel_rfl,by kernel_rfl,by kernel_rfl,by kernel_rfl⟩
theorem tf_4:TFact Try.prog 4 ⟨.bl,1,1,[.bool false],false,[]⟩:=⟨by kernel_rfl,by kernel_rfl,by kernel_rfl,by kernel_rfl⟩
theorem tf_5:TFact Try.prog 5 ⟨.int .u8,1,1,[.int .u8 0],false,[]⟩:=⟨by kernel_rfl,by kernel_rfl,by kernel_rfl,by kernel_rfl⟩
theorem tf_6:TFact Try.prog 6 ⟨.int .u8,1,1,[.int .u8 0],false,[]⟩:=⟨by kernel_rfl,by kernel_rfl,by kernel_rfl,by kernel_rfl⟩
theorem tf_7:TFact Try.prog 7 ⟨.st [(0,2),(1,3),(2,4),(3,6)],4,24,[.int .i64 0,.int .i64 0,.bool false,.int .u8 0],false,[]⟩:=⟨by kernel_rfl,by kernel_rfl,by kernel_rfl,by kernel_rfl⟩
theorem tf_8:TFact Try.prog 8 ⟨.st [(0,2),(1,3),(2,4),(3,6)],4,24,[.int .i64 0,.int .i64 0,.bool false,.int .u8 0],false,[]⟩:=⟨by kernel_rfl,by kernel_rfl,by kernel_rfl,by kernel_rfl⟩
theorem tf_9:TFact Try.prog 9 ⟨.str,1,16,[.string ⟨#[]⟩],false,[]⟩:=⟨by kernel_rfl,by kernel_rfl,by kernel_rfl,by kernel_rfl⟩
theorem tf_11:TFact Try.prog 11 ⟨.str,1,16,[.string ⟨#[]⟩],false,[]⟩:=⟨by kernel_rfl,by kernel_rfl,by kernel_rfl,by kernel_rfl⟩
theorem tf_12:TFact Try.prog 12 ⟨.int .u64,1,8,[.int .u64 0],false,[]⟩:=⟨by kernel_rfl,by kernel_rfl,by kernel_rfl,by kernel_rfl⟩
theorem tf_13:TFact Try.prog 13 ⟨.st [(0,9),(1,12)],2,24,[.string ⟨#[]⟩,.int .u64 0],false,[]⟩:=⟨by kernel_rfl,by kernel_rfl,by kernel_rfl,by kernel_rfl⟩
theorem tf_22:TFact Try.prog 22 ⟨.sli 5,1,24,[.slice none 0 0],false,[]⟩:=⟨by kernel_rfl,by kernel_rfl,by kernel_rfl,by kernel_rfl⟩
theorem tf_23:TFact Try.prog 23 ⟨.sli 3,1,24,[.slice none 0 0],false,[]⟩:=⟨by kernel_rfl,by kernel_rfl,by kernel_rfl,by kernel_rfl⟩
theorem tf_25:TFact Try.prog 25 ⟨.st [(0,23),(1,23),(2,3)],3,56,[.slice none 0 0,.slice none 0 0,.int .i64 0],false,[]⟩:=⟨by kernel_rfl,by kernel_rfl,by kernel_rfl,by kernel_rfl⟩
theorem tf_26:TFact Try.prog 26 ⟨.sli 40,1,24,[.slice none 0 0],false,[]⟩:=⟨by kernel_rfl,by kernel_rfl,by kernel_rfl,by kernel_rfl⟩
theorem tf_27:TFact Try.prog 27 ⟨.sli 4,1,24,[.slice none 0 0],false,[]⟩:=⟨by kernel_rfl,by kernel_rfl,by kernel_rfl,by kernel_rfl⟩
theorem tf_29:TFact Try.prog 29 ⟨.st [(0,3),(1,3),(2,3),(3,26),(4,27),(5,27),(6,23)],7,120,[.int .i64 0,.int .i64 0,.int .i64 0,.slice none 0 0,.slice none 0 0,.slice none 0 0,.slice none 0 0],false,[]⟩:=⟨by kernel_rfl,by kernel_rfl,by kernel_rfl,by kernel_rfl⟩
theorem tf_30:TFact Try.prog 30 ⟨.sli 29,1,24,[.slice none 0 0],false,[]⟩:=⟨by kernel_rfl,by kernel_rfl,by kernel_rfl,by kernel_rfl⟩
theorem tf_32:TFact Try.prog 32 ⟨.st [(0,3),(1,25),(4,29),(11,30),(12,23)],13,232,[.int .i64 0,.slice none 0 0,.slice none 0 0,.int .i64 0,.int .i64 0,.int .i64 0,.int .i64 0,.slice none 0 0,.slice none 0 0,.slice none 0 0,.slice none 0 0,.slice none 0 0,.slice none 0 0],false,[]⟩:=⟨by kernel_rfl,by kernel_rfl,by kernel_rfl,by kernel_rfl⟩
theorem tf_40:TFact Try.prog 40 ⟨.st [(0,3),(1,3),(2,3),(3,3),(4,3),(5,3),(6,3)],7,56,[.int .i64 0,.int .i64 0,.int .i64 0,.int .i64 0,.int .i64 0,.int .i64 0,.int .i64 0],true,[]⟩:=⟨by kernel_rfl,by kernel_rfl,by kernel_rfl,by kernel_rfl⟩
theorem tf_42:TFact Try.prog 42 ⟨.sli 119,1,24,[.slice none 0 0],false,[]⟩:=⟨by kernel_rfl,by kernel_rfl,by kernel_rfl,by kernel_rfl⟩
theorem tf_44:TFact Try.prog 44 ⟨.st [(0,42)],1,24,[.slice none 0 0],false,[]⟩:=⟨by kernel_rfl,by kernel_rfl,by kernel_rfl,by kernel_rfl⟩
theorem tf_46:TFact Try.prog 46 ⟨.sli 60,1,24,[.slice none 0 0],false,[]⟩:=⟨by kernel_rfl,by kernel_rfl,by kernel_rfl,by kernel_rfl⟩
theorem tf_48:TFact Try.prog 48 ⟨.sli 32,1,24,[.slice none 0 0],false,[]⟩:=⟨by kernel_rfl,by kernel_rfl,by kernel_rfl,by kernel_rfl⟩
theorem tf_50:TFact Try.prog 50 ⟨.st [(0,48)],1,24,[.slice none 0 0],false,[]⟩:=⟨by kernel_rfl,by kernel_rfl,by kernel_rfl,by kernel_rfl⟩
theorem tf_57:TFact Try.prog 57 ⟨.pt,1,8,[.pointer none],false,[]⟩:=⟨by kernel_rfl,by kernel_rfl,by kernel_rfl,by kernel_rfl⟩
theorem tf_60:TFact Try.prog 60 ⟨.st [(0,3),(1,3),(2,3),(3,3),(4,40)],11,88,[.int .i64 0,.int .i64 0,.int .i64 0,.int .i64 0,.int .i64 0,.int .i64 0,.int .i64 0,.int .i64 0,.int .i64 0,.int .i64 0,.int .i64 0],false,[]⟩:=⟨by kernel_rfl,by kernel_rfl,by kernel_rfl,by kernel_rfl⟩
theorem tf_64:TFact Try.prog 64 ⟨.sc,1,8,[.nilFunc],false,[]⟩:=⟨by kernel_rfl,by kernel_rfl,by kernel_rfl,by kernel_rfl⟩
theorem tf_67:TFact Try.prog 67 ⟨.pt,1,8,[.pointer none],false,[]⟩:=⟨by kernel_rfl,by kernel_rfl,by kernel_rfl,by kernel_rfl⟩
theorem tf_71:TFact Try.prog 71 ⟨.st [(0,29),(7,3)],8,128,[.int .i64 0,.int .i64 0,.int .i64 0,.slice none 0 0,.slice none 0 0,.slice none 0 0,.slice none 0 0,.int .i64 0],false,[]⟩:=⟨by kernel_rfl,by kernel_rfl,by kernel_rfl,by kernel_rfl⟩
theorem tf_83:TFact Try.prog 83 ⟨.sc,1,8,[.nilFunc],false,[]⟩:=⟨by kernel_rfl,by kernel_rfl,by kernel_rfl,by kernel_rfl⟩
theorem tf_84:TFact Try.prog 84 ⟨.sc,1,8,[.nilFunc],false,[]⟩:=⟨by kernel_rfl,by kernel_rfl,by kernel_rfl,by kernel_rfl⟩
theorem tf_87:TFact Try.prog 87 ⟨.pt,1,8,[.pointer none],false,[]⟩:=⟨by kernel_rfl,by kernel_rfl,by kernel_rfl,by kernel_rfl⟩
theorem tf_89:TFact Try.prog 89 ⟨.st [(0,25),(3,3),(4,29),(11,87),(12,3),(13,23)],14,224,[.slice none 0 0,.slice none 0 0,.int .i64 0,.int .i64 0,.int .i64 0,.int .i64 0,.int .i64 0,.slice none 0 0,.slice none 0 0,.slice none 0 0,.slice none 0 0,.pointer none,.int .i64 0,.slice none 0 0],false,[]⟩:=⟨by kernel_rfl,by kernel_rfl,by kernel_rfl,by kernel_rfl⟩
theorem tf_94:TFact Try.prog 94 ⟨.st [(0,22),(1,3)],2,32,[.slice none 0 0,.int .i64 0],false,[]⟩:=⟨by kernel_rfl,by kernel_rfl,by kernel_rfl,by kernel_rfl⟩
theorem tf_100:TFact Try.prog 100 ⟨.sc,1,8,[.nilFunc],false,[]⟩:=⟨by kernel_rfl,by kernel_rfl,by kernel_rfl,by kernel_rfl⟩
theorem tf_109:TFact Try.prog 109 ⟨.st [(0,29),(7,87)],8,128,[.int .i64 0,.int .i64 0,.int .i64 0,.slice none 0 0,.slice none 0 0,.slice none 0 0,.slice none 0 0,.pointer none],false,[]⟩:=⟨by kernel_rfl,by kernel_rfl,by kernel_rfl,by kernel_rfl⟩
theorem tf_113:TFact Try.prog 113 ⟨.st [(0,23),(1,23),(2,3)],3,56,[.slice none 0 0,.slice none 0 0,.int .i64 0],false,[]⟩:=⟨by kernel_rfl,by kernel_rfl,by kernel_rfl,by kernel_rfl⟩
theorem tf_114:TFact Try.prog 114 ⟨.sli 187,1,24,[.slice none 0 0],false,[]⟩:=⟨by kernel_rfl,by kernel_rfl,by kernel_rfl,by kernel_rfl⟩
theorem tf_116:TFact Try.prog 116 ⟨.st [(0,3),(1,3),(2,3),(3,114),(4,27),(5,27),(6,23)],7,120,[.int .i64 0,.int .i64 0,.int .i64 0,.slice none 0 0,.slice none 0 0,.slice none 0 0,.slice none 0 0],false,[]⟩:=⟨by kernel_rfl,by kernel_rfl,by kernel_rfl,by kernel_rfl⟩
theorem tf_117:TFact Try.prog 117 ⟨.sli 116,1,24,[.slice none 0 0],false,[]⟩:=⟨by kernel_rfl,by kernel_rfl,by kernel_rfl,by kernel_rfl⟩
theorem tf_119:TFact Try.prog 119 ⟨.st [(0,3),(1,113),(4,116),(11,117),(12,23)],13,232,[.int .i64 0,.slice none 0 0,.slice none 0 0,.int .i64 0,.int .i64 0,.int .i64 0,.int .i64 0,.slice none 0 0,.slice none 0 0,.slice none 0 0,.slice none 0 0,.slice none 0 0,.slice none 0 0],false,[]⟩:=⟨by kernel_rfl,by kernel_rfl,by kernel_rfl,by kernel_rfl⟩
theorem tf_125:TFact Try.prog 125 ⟨.sc,1,16,[.nilIface],false,[]⟩:=⟨by kernel_rfl,by kernel_rfl,by kernel_rfl,by kernel_rfl⟩
theorem tf_164:TFact Try.prog 164 ⟨.st [],0,0,[],false,[("loop.example/hawser/impl.settled",161)]⟩:=⟨by kernel_rfl,by kernel_rfl,by kernel_rfl,by kernel_rfl⟩
theorem tf_165:TFact Try.prog 165 ⟨.st [],0,0,[],false,[("loop.example/hawser/impl.settled",162)]⟩:=⟨by kernel_rfl,by kernel_rfl,by kernel_rfl,by kernel_rfl⟩
theorem tf_166:TFact Try.prog 166 ⟨.st [],0,0,[],false,[("loop.example/hawser/impl.settled",163)]⟩:=⟨by kernel_rfl,by kernel_rfl,by kernel_rfl,by kernel_rfl⟩
theorem tf_167:TFact Try.prog 167 ⟨.sc,1,8,[.nilFunc],false,[]⟩:=⟨by kernel_rfl,by kernel_rfl,by kernel_rfl,by kernel_rfl⟩
theorem tf_170:TFact Try.prog 170 ⟨.mp 3 3,1,8,[.map none],false,[]⟩:=⟨by kernel_rfl,by kernel_rfl,by kernel_rfl,by kernel_rfl⟩
theorem tf_172:TFact Try.prog 172 ⟨.st [(0,170),(1,170),(2,3)],3,24,[.map none,.map none,.int .i64 0],false,[]⟩:=⟨by kernel_rfl,by kernel_rfl,by kernel_rfl,by kernel_rfl⟩
theorem tf_187:TFact Try.prog 187 ⟨.st [(0,3),(1,3),(2,3),(3,3),(4,3),(5,3),(6,3)],7,56,[.int .i64 0,.int .i64 0,.int .i64 0,.int .i64 0,.int .i64 0,.int .i64 0,.int .i64 0],false,[]⟩:=⟨by kernel_rfl,by kernel_rfl,by kernel_rfl,by kernel_rfl⟩
def AllT (P:Program):List (Nat × TI)→Prop
 | []=>True
 | (t,x) ::r=>TFact P t x∧AllT P r
theorem allT_mem {P:Program}:∀ {l:List (Nat × TI)},AllT P l→∀ t x,(t,x) ∈ l→TFact P t x
 | [],_,_,_,h=>by cases h
 | (u,y) ::r,h,t,x,hm=>by
   rcases List.mem_cons.1 hm with e|e
   · injection e with e1 e2;subst e1;subst e2;exact h.1
   · exact allT_mem h.2 t x e
theorem allT:AllT Try.prog tis:=⟨tf_1,tf_2,tf_3,tf_4,tf_5,tf_6,tf_7,tf_8,tf_9,tf_11,tf_12,tf_13,tf_22,tf_23,tf_25,tf_26,tf_27,tf_29,tf_30,tf_32,tf_40,tf_42,tf_44,tf_46,tf_48,tf_50,tf_57,tf_60,tf_64,tf_67,tf_71,tf_83,tf_84,tf_87,tf_89,tf_94,tf_100,tf_109,tf_113,tf_114,tf_116,tf_117,tf_119,tf_125,tf_164,tf_165,tf_166,tf_167,tf_170,tf_172,tf_187,trivial⟩
theorem tok:TOk Try.prog ti:=fun t x h=>allT_mem allT t x (look_mem h)
end Go.Hw
