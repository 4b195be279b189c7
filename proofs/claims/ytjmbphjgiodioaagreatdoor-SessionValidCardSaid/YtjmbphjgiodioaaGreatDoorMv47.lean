/- Several texts, one behind the other. Conditions: as each of them says. -/
import Derived.Test.YtjmbphjgiodioaaGreatDoorMv45
import Derived.Test.YtjmbphjgiodioaaGreatDoorMv18
import Derived.Deep.Slices
import Derived.SizedLaws
set_option maxRecDepth 100000
set_option maxHeartbeats 32000000
namespace Go.Proofs.YtjmbphjgiodioaaGreatDoor
open Go.RowKit Go.Joins Go.ChangeShapes Go.WideShapes Go.Deep
section
variable {H:Type} {enc:TypeId×Value→H} {w:World} {held:Bool} {fuel:Nat} {cs:List Value} {x:DataW H×List MemPlace}
def Wt (t:TypeId) (d:DataW H):Prop:=∀n∈d.weights Tryz.prog t,n≤reachBytes
theorem wAll_mem {e:TypeId} {d:DataW H} {n:Nat} (hn:n∈d.weights Tryz.prog e):∀{l:List (DataW H)},d∈l→n∈DataW.weightsAll Tryz.prog e l
 |x::l,h=>by
  simp only [DataW.weightsAll,List.mem_append]
  rcases List.mem_cons.1 h with rfl|h
  ·exact Or.inl hn
  exact Or.inr (wAll_mem hn h)
theorem wt_slice {t e:TypeId} (ht:Tryz.prog.underlying t=some (.slice e)) {l r:List (DataW H)} (h:Wt t (.slice l r)):(l.length+r.length)*Tryz.prog.bytesOf e≤reachBytes∧∀d∈l,Wt e d:=
 ⟨h _ (by simp [DataW.weights,ht]),fun d hd n hn=>h n (by simp [DataW.weights,ht,wAll_mem hn hd])⟩
theorem wt_struct {t:TypeId} {fs:Array Field} (ht:Tryz.prog.underlying t=some (.struct fs)) {l:List (DataW H)} (h:Wt t (.agg l)) {i:Nat} {f:Field} {d:DataW H} (hf:fs[i]? =some f) (hd:l[i]? =some d):Wt f.type d:=
 fun n hn=>h n (by
  simp only [DataW.weights,ht]
  exact DataW.weights_mem_each (j:=i) (t:=f.type) (by rw [List.getElem?_map,Array.getElem?_toList,hf];rfl) hd n hn)
theorem sl_genW {α:Type} [GR α] {F:α→Prop} {t e:TypeId} (ht:Tryz.prog.underlying t=some (.slice e)) (ce:Tryz.prog.cellsOf e=GR.sz α) (h0:0<GR.sz α)
    (he:∀(fuel:Nat) (cs:List Value) (x:DataW H×List MemPlace),DataW.trod enc Tryz.prog w 0 (fun _=>true) held fuel e cs=some x→Wt e x.1→∃y:α,GR.rep (fun _=>False) w cs y∧F y)
    (h:DataW.trod enc Tryz.prog w 0 (fun _=>true) held fuel t cs=some x) (hw:Wt t x.1):∃(a:Option Addr) (c:Nat) (l:List α),cs=[.slice a l.length c]∧Sl (fun _=>False) w a c l∧l.length*Tryz.prog.bytesOf e≤reachBytes∧∀y∈l,F y:=by
 rcases open_slice ht h with ⟨rfl,_⟩|⟨a,len,cap,m,n,D,Pl,rfl,_,hl,hm,hmm,rfl,hx⟩
 ·exact ⟨none,0,[],rfl,Sl.nil _ _ _ (by unfold maxLen;omega),by simp,by simp⟩
 obtain ⟨hw1,hw2⟩:=wt_slice ht hw
 have hlm:len≤m:=by rw [hmm];simpa using hl
 have hex:∀i:Fin len,∃y:α,(∃cs',w.cells? 0 (a.add (i.1*GR.sz α)) (GR.sz α)=some cs'∧GR.rep (fun _=>False) w cs' y)∧F y:=by
  intro i
  obtain ⟨cs',h1,h2⟩:=hx i.1 (by have:=i.2;omega)
  obtain ⟨y,hy,hF⟩:=he _ _ _ h2 (hw2 _ (List.mem_map.2 ⟨i.1,by simp [i.2],rfl⟩))
  rw [ce] at h1
  exact ⟨y,⟨cs',h1,hy⟩,hF⟩
 obtain ⟨f,hf⟩:=Classical.axiomOfChoice hex
 refine ⟨some a,cap,List.ofFn f,by simp,⟨by simpa using hl,hm,fun j y hj=> ?_⟩,?_,fun y hy=> ?_⟩
 ·have hjl : j < len := by
    by_cases e:j<len
    ·exact e
    rw [List.getElem?_eq_none (by simpa using e)] at hj;simp at hj
  have hy:f ⟨j,hjl⟩=y:=by
   rw [List.getElem?_ofFn,dif_pos hjl] at hj
   simpa using hj
  obtain ⟨⟨cs0,g1,g2⟩, -⟩:=hf ⟨0,by omega⟩
  obtain ⟨-,g3,g4⟩:=World.cells?_some g1
  have g5:=g4 0 h0
  rw [show (a.add (0*GR.sz α)).add 0=a from by simp [Addr.add]] at g5
  rw [List.getElem?_eq_getElem (by omega)] at g5
  obtain ⟨b,off,rfl,hb⟩:=flat_of_cell g5
  obtain ⟨⟨cs',h1,h2⟩, -⟩:=hf ⟨j,hjl⟩
  obtain ⟨-,h3,h4⟩:=World.cells?_some h1
  rw [hy] at h2
  refine ⟨b,off,cs',rfl,hb,id,h2,fun i u hi=> ?_⟩
  have hin:i<GR.sz α:=by have:=(List.getElem?_eq_some_iff.1 hi).1;omega
  have h5:=h4 i hin
  rw [hi,add_flat,add_flat] at h5
  exact h5
 ·refine Nat.le_trans (Nat.mul_le_mul_right _ ?_) hw1
  simp
 obtain ⟨i,rfl⟩:=List.mem_ofFn.1 hy
 exact (hf i).2
theorem sl_weight {t e:TypeId} (ht:Tryz.prog.underlying t=some (.slice e)) (h:DataW.trod enc Tryz.prog w 0 (fun _=>true) held fuel t cs=some x) (hw:Wt t x.1) {a:Option Addr} {n c:Nat} (hc:cs=[.slice a n c]):n*Tryz.prog.bytesOf e≤reachBytes:=by
 rcases open_slice ht h with ⟨rfl,_⟩|⟨a,len,cap,m,n,D,Pl,rfl,_,hl,hm,hmm,rfl,hx⟩
 ·simp only [List.cons.injEq,Value.slice.injEq,and_true] at hc
  rw [←hc.2.1];simp
 simp only [List.cons.injEq,Value.slice.injEq,and_true] at hc
 rw [←hc.2.1]
 refine Nat.le_trans (Nat.mul_le_mul_right _ ?_) (wt_slice ht hw).1
 simp
theorem list_of_len5 {α:Type} {l:List α} (h:l.length=5):∃a b c d e,l=[a,b,c,d,e]:=by
 match l,h with
 |[a,b,c,d,e],_=>exact ⟨a,b,c,d,e,rfl⟩
theorem cells_ses:Tryz.prog.cellsOf 3=1∧Tryz.prog.cellsOf 94=1∧Tryz.prog.cellsOf 27=1∧Tryz.prog.cellsOf 4=1∧Tryz.prog.cellsOf 140=5∧Tryz.prog.cellsOf 30=1∧Tryz.prog.cellsOf 32=1∧Tryz.prog.cellsOf 22=1∧Tryz.prog.cellsOf 24=5∧Tryz.prog.cellsOf 26=8∧Tryz.prog.cellsOf 29=3∧Tryz.prog.cellsOf 34=2∧Tryz.prog.cellsOf 36=3∧Tryz.prog.cellsOf 39=2∧Tryz.prog.cellsOf 43=5∧Tryz.prog.cellsOf 41=4∧Tryz.prog.cellsOf 44=1∧Tryz.prog.cellsOf 46=26∧Tryz.prog.cellsOf 37=1:=
 ⟨by kernel_rfl,by kernel_rfl,by kernel_rfl,by kernel_rfl,by kernel_rfl,by kernel_rfl,by kernel_rfl,by kernel_rfl,by kernel_rfl,by kernel_rfl,by kernel_rfl,by kernel_rfl,by kernel_rfl,by kernel_rfl,by kernel_rfl,by kernel_rfl,by kernel_rfl,by kernel_rfl,by kernel_rfl⟩
theorem bytes_ses:Tryz.prog.bytesOf 3=8∧Tryz.prog.bytesOf 94=24:=⟨by kernel_rfl,by kernel_rfl⟩
theorem dn_of (h:DataW.trod enc Tryz.prog w 0 (fun _=>true) held fuel 140 cs=some x) (hw:Wt 140 x.1):∃y:Dn,GR.rep (fun _=>False) w cs y∧y.fit:=by
 obtain ⟨k1,k2,k3,k4,k5,k6, -⟩:=cells_ses
 obtain ⟨xs,n, -,rfl,hl,hlen,hg⟩:=DataW.trod_struct Tryz.underlying140 h
 rw [k5] at hl
 obtain ⟨c0,c1,c2,c3,c4,rfl⟩:=list_of_len5 hl
 match xs,hlen with
 |[y0,y1,y2,y3,y4],_=>
  have h0:DataW.trod enc Tryz.prog w 0 (fun _=>true) held n 4 [c0]=some y0:=by have h:=hg 0 _ rfl;simp [k4] at h;exact h
  have h1:DataW.trod enc Tryz.prog w 0 (fun _=>true) held n 94 [c1]=some y1:=by have h:=hg 1 _ rfl;simp [k2] at h;exact h
  have h2:DataW.trod enc Tryz.prog w 0 (fun _=>true) held n 94 [c2]=some y2:=by have h:=hg 2 _ rfl;simp [k2] at h;exact h
  have h3:DataW.trod enc Tryz.prog w 0 (fun _=>true) held n 27 [c3]=some y3:=by have h:=hg 3 _ rfl;simp [k3] at h;exact h
  have h4:DataW.trod enc Tryz.prog w 0 (fun _=>true) held n 94 [c4]=some y4:=by have h:=hg 4 _ rfl;simp [k2] at h;exact h
  have w2:Wt 94 y2.1:=wt_struct Tryz.underlying140 hw (i:=2) rfl rfl
  have w3:Wt 27 y3.1:=wt_struct Tryz.underlying140 hw (i:=3) rfl rfl
  have w4:Wt 94 y4.1:=wt_struct Tryz.underlying140 hw (i:=4) rfl rfl
  obtain ⟨b,e0, -⟩:=DataW.trod_bool Tryz.underlying4 h0
  obtain ⟨a1,d1,l1,e1,s1⟩:=sl_ints_of h1
  obtain ⟨a2,d2,l2,e2,s2⟩:=sl_ints_of h2
  obtain ⟨a3,d3,l3,e3,s3⟩:=sl_rows_of h3
  obtain ⟨a4,d4,l4,e4,s4⟩:=sl_ints_of h4
  have q2:=sl_weight Tryz.underlying94 h2 w2 e2
  have q3:=sl_weight Tryz.underlying27 h3 w3 e3
  have q4:=sl_weight Tryz.underlying94 h4 w4 e4
  rw [bytes_ses.1] at q2 q4
  rw [bytes_ses.2] at q3
  simp at e0 e1 e2 e3 e4
  subst e0 e1 e2 e3 e4
  unfold reachBytes at q2 q3 q4
  exact ⟨⟨b,l1,l2,l3,l4⟩,⟨a1,d1,a2,d2,a3,d3,a4,d4,rfl,s1,s2,s3,s4⟩,by show l2.length≤_;omega,by show l3.length≤_;omega,by show l4.length≤_;omega⟩
theorem sl_dns_of (h:DataW.trod enc Tryz.prog w 0 (fun _=>true) held fuel 30 cs=some x) (hw:Wt 30 x.1):∃(a:Option Addr) (c:Nat) (l:List Dn),cs=[.slice a l.length c]∧Sl (fun _=>False) w a c l∧∀y∈l,y.fit:=by
 obtain ⟨a,c,l,h1,h2, -,h3⟩:=sl_genW (F:=Dn.fit) Tryz.underlying30 cells_ses.2.2.2.2.1 (by simp [GR.sz]) (fun _ _ _ h hw=>dn_of h hw) h hw
 exact ⟨a,c,l,h1,h2,h3⟩
theorem tab_of {t:TypeId} {f0 f1 f2:Field} (ht:Tryz.prog.underlying t=some (.struct #[f0,f1,f2])) (g0:f0.type=3∧f0.offset=0) (g1:f1.type=27∧f1.offset=1) (g2:f2.type=27∧f2.offset=2) {c0 c1 c2:Value} (h:DataW.trod enc Tryz.prog w 0 (fun _=>true) held fuel t [c0,c1,c2]=some x):
    ∃T a c a' c',c0= .int .i64 T.inputs∧c1= .slice a T.pre.length c∧c2= .slice a' T.suf.length c'∧Tm (fun _=>False) w a c a' c' T:=by
 obtain ⟨xs,n, -, -, -,hlen,hg⟩:=DataW.trod_struct ht h
 obtain ⟨k1,k2,k3, -⟩:=cells_ses
 match xs,hlen with
 |[y0,y1,y2],_=>
  have h0:DataW.trod enc Tryz.prog w 0 (fun _=>true) held n 3 [c0]=some y0:=by have h:=hg 0 f0 rfl;rw [g0.1,g0.2] at h;simp [k1] at h;exact h
  have h1:DataW.trod enc Tryz.prog w 0 (fun _=>true) held n 27 [c1]=some y1:=by have h:=hg 1 f1 rfl;rw [g1.1,g1.2] at h;simp [k3] at h;exact h
  have h2:DataW.trod enc Tryz.prog w 0 (fun _=>true) held n 27 [c2]=some y2:=by have h:=hg 2 f2 rfl;rw [g2.1,g2.2] at h;simp [k3] at h;exact h
  obtain ⟨x0,e0, -,w0⟩:=DataW.trod_int Tryz.underlying3 h0
  obtain ⟨a1,d1,l1,e1,s1⟩:=sl_rows_of h1
  obtain ⟨a2,d2,l2,e2,s2⟩:=sl_rows_of h2
  simp at e0 e1 e2
  exact ⟨⟨x0,l1,l2⟩,a1,d1,a2,d2,e0,e1,e2,wf_i64 w0,s1,s2⟩
theorem cfg_of {c0 c1 c2 c3 c4 c5 c6 c7:Value} (h:DataW.trod enc Tryz.prog w 0 (fun _=>true) held fuel 26 [c0,c1,c2,c3,c4,c5,c6,c7]=some x):
    ∃c:Cfg,[c0,c1,c2,c3,c4,c5,c6,c7]=[.int .i64 c.inputs,.int .i64 c.kind,.int .i64 c.stg.kind,.int .i64 c.stg.extra,.int .u64 (c.stg.seed:Int),.int .i64 c.stg.count,.int .i64 c.stg.len,.int .i64 c.bound]∧(i64 c.inputs∧i64 c.kind∧i64 c.stg.kind∧i64 c.stg.extra∧c.stg.seed<18446744073709551616∧i64 c.stg.count∧i64 c.stg.len∧i64 c.bound):=by
 obtain ⟨xs,n, -, -, -,hlen,hg⟩:=DataW.trod_struct Tryz.underlying26 h
 obtain ⟨k1, -, -, -, -, -, -,k8,k9, -⟩:=cells_ses
 match xs,hlen with
 |[y0,y1,y2,y3],_=>
  have h0:DataW.trod enc Tryz.prog w 0 (fun _=>true) held n 3 [c0]=some y0:=by have h:=hg 0 _ rfl;simp [k1] at h;exact h
  have h1:DataW.trod enc Tryz.prog w 0 (fun _=>true) held n 3 [c1]=some y1:=by have h:=hg 1 _ rfl;simp [k1] at h;exact h
  have h2:DataW.trod enc Tryz.prog w 0 (fun _=>true) held n 24 [c2,c3,c4,c5,c6]=some y2:=by have h:=hg 2 _ rfl;simp [k9] at h;exact h
  have h3:DataW.trod enc Tryz.prog w 0 (fun _=>true) held n 3 [c7]=some y3:=by have h:=hg 3 _ rfl;simp [k1] at h;exact h
  obtain ⟨xs,m, -, -, -,hlen,hg⟩:=DataW.trod_struct Tryz.underlying24 h2
  match xs,hlen with
  |[z0,z1,z2,z3,z4],_=>
   have i0:DataW.trod enc Tryz.prog w 0 (fun _=>true) held m 3 [c2]=some z0:=by have h:=hg 0 _ rfl;simp [k1] at h;exact h
   have i1:DataW.trod enc Tryz.prog w 0 (fun _=>true) held m 3 [c3]=some z1:=by have h:=hg 1 _ rfl;simp [k1] at h;exact h
   have i2:DataW.trod enc Tryz.prog w 0 (fun _=>true) held m 22 [c4]=some z2:=by have h:=hg 2 _ rfl;simp [k8] at h;exact h
   have i3:DataW.trod enc Tryz.prog w 0 (fun _=>true) held m 3 [c5]=some z3:=by have h:=hg 3 _ rfl;simp [k1] at h;exact h
   have i4:DataW.trod enc Tryz.prog w 0 (fun _=>true) held m 3 [c6]=some z4:=by have h:=hg 4 _ rfl;simp [k1] at h;exact h
   obtain ⟨x0,e0, -,w0⟩:=DataW.trod_int Tryz.underlying3 h0
   obtain ⟨x1,e1, -,w1⟩:=DataW.trod_int Tryz.underlying3 h1
   obtain ⟨x2,e2, -,w2⟩:=DataW.trod_int Tryz.underlying3 i0
   obtain ⟨x3,e3, -,w3⟩:=DataW.trod_int Tryz.underlying3 i1
   obtain ⟨x4,e4, -,w4⟩:=DataW.trod_int Tryz.underlying22 i2
   obtain ⟨x5,e5, -,w5⟩:=DataW.trod_int Tryz.underlying3 i3
   obtain ⟨x6,e6, -,w6⟩:=DataW.trod_int Tryz.underlying3 i4
   obtain ⟨x7,e7, -,w7⟩:=DataW.trod_int Tryz.underlying3 h3
   have hu:=bounds_u64 w4
   obtain ⟨sd,rfl⟩:=Int.eq_ofNat_of_zero_le (show 0≤x4 by omega)
   simp at e0 e1 e2 e3 e4 e5 e6 e7
   subst e0 e1 e2 e3 e4 e5 e6 e7
   exact ⟨⟨x0,x1,⟨x2,x3,sd,x5,x6⟩,x7⟩,rfl,wf_i64 w0,wf_i64 w1,wf_i64 w2,wf_i64 w3,by show sd<_;omega,wf_i64 w5,wf_i64 w6,wf_i64 w7⟩
theorem open_ses {r:Reach} {b0:Nat} {v:Value} {d:DataW H} {p:List MemPlace} (hv:Value.okWide Tryz.prog w r b0 46 v) (h:DataW.Trod enc Tryz.prog w 0 (fun _=>true) held 46 v d p) (hw:Wt 46 d):
    ∃(s:Ses) (A:Sad),v= .agg (sesL s A).toArray∧Sem (fun _=>False) w A s∧∀x∈s.nodes,x.fit:=by
 obtain ⟨k1,k2,k3,k4,k5,k6,k7,k8,k9,k10,k11,k12,k13,k14,k15,k16,k17,k18,k19⟩:=cells_ses
 obtain ⟨cs,rfl,hsz⟩:=okWide_struct Tryz.underlying46 hv
 rw [k18] at hsz
 obtain ⟨L⟩:=cs
 simp at hsz
 obtain ⟨fuel,hf⟩:=h
 match L,hsz with
 |[c0,c1,c2,c3,c4,c5,c6,c7,c8,c9,c10,c11,c12,c13,c14,c15,c16,c17,c18,c19,c20,c21,c22,c23,c24,c25],_=>
  obtain ⟨xs,n, -,he, -,hlen,hg⟩:=DataW.trod_struct Tryz.underlying46 hf
  match xs,hlen with
  |[y0,y1,y2,y3,y4,y5,y6,y7,y8],_=>
   have h0:DataW.trod enc Tryz.prog w 0 (fun _=>true) held n 26 [c0,c1,c2,c3,c4,c5,c6,c7]=some y0:=by have h:=hg 0 _ rfl;simp [Value.cells,k10] at h;exact h
   have h1:DataW.trod enc Tryz.prog w 0 (fun _=>true) held n 3 [c8]=some y1:=by have h:=hg 1 _ rfl;simp [Value.cells,k1] at h;exact h
   have h2:DataW.trod enc Tryz.prog w 0 (fun _=>true) held n 29 [c9,c10,c11]=some y2:=by have h:=hg 2 _ rfl;simp [Value.cells,k11] at h;exact h
   have h3:DataW.trod enc Tryz.prog w 0 (fun _=>true) held n 34 [c12,c13]=some y3:=by have h:=hg 3 _ rfl;simp [Value.cells,k12] at h;exact h
   have h4:DataW.trod enc Tryz.prog w 0 (fun _=>true) held n 36 [c14,c15,c16]=some y4:=by have h:=hg 4 _ rfl;simp [Value.cells,k13] at h;exact h
   have h5:DataW.trod enc Tryz.prog w 0 (fun _=>true) held n 39 [c17,c18]=some y5:=by have h:=hg 5 _ rfl;simp [Value.cells,k14] at h;exact h
   have h6:DataW.trod enc Tryz.prog w 0 (fun _=>true) held n 43 [c19,c20,c21,c22,c23]=some y6:=by have h:=hg 6 _ rfl;simp [Value.cells,k15] at h;exact h
   have h7:DataW.trod enc Tryz.prog w 0 (fun _=>true) held n 3 [c24]=some y7:=by have h:=hg 7 _ rfl;simp [Value.cells,k1] at h;exact h
   have h8:DataW.trod enc Tryz.prog w 0 (fun _=>true) held n 44 [c25]=some y8:=by have h:=hg 8 _ rfl;simp [Value.cells,k17] at h;exact h
   simp only [Prod.mk.injEq] at he
   obtain ⟨rfl, -⟩:=he
   have w3:Wt 34 y3.1:=wt_struct Tryz.underlying46 hw (i:=3) rfl rfl
   obtain ⟨cg,ec,i1,i2,i3,i4,i5,i6,i7,i8⟩:=cfg_of h0
   obtain ⟨x1,e1, -,u1⟩:=DataW.trod_int Tryz.underlying3 h1
   obtain ⟨T,pa,pc,qa,qc,t0,t1,t2,ht⟩:=tab_of Tryz.underlying29 ⟨rfl,rfl⟩ ⟨rfl,rfl⟩ ⟨rfl,rfl⟩ h2
   obtain ⟨T',ua,uc,va,vc,t3,t4,t5,ht'⟩:=tab_of Tryz.underlying36 ⟨rfl,rfl⟩ ⟨rfl,rfl⟩ ⟨rfl,rfl⟩ h4
   obtain ⟨x7,e7, -,u7⟩:=DataW.trod_int Tryz.underlying3 h7
   obtain ⟨x8,e8, -,u8⟩:=DataW.trod_int Tryz.underlying44 h8
   -- the tree
   obtain ⟨xs,n3, -,he3, -,hlen3,hg3⟩:=DataW.trod_struct Tryz.underlying34 h3
   match xs,hlen3 with
   |[z0,z1],_=>
    have j0:DataW.trod enc Tryz.prog w 0 (fun _=>true) held n3 3 [c12]=some z0:=by have h:=hg3 0 _ rfl;simp [k1] at h;exact h
    have j1:DataW.trod enc Tryz.prog w 0 (fun _=>true) held n3 32 [c13]=some z1:=by have h:=hg3 1 _ rfl;simp [k7] at h;exact h
    rw [he3] at w3
    have w4:Wt 32 z1.1:=wt_struct Tryz.underlying34 w3 (i:=1) rfl rfl
    obtain ⟨xs,n4, -,he4, -,hlen4,hg4⟩:=DataW.trod_struct Tryz.underlying32 j1
    match xs,hlen4 with
    |[z2],_=>
     have j2:DataW.trod enc Tryz.prog w 0 (fun _=>true) held n4 30 [c13]=some z2:=by have h:=hg4 0 _ rfl;simp [k6] at h;exact h
     rw [he4] at w4
     have w5:Wt 30 z2.1:=wt_struct Tryz.underlying32 w4 (i:=0) rfl rfl
     obtain ⟨x12,e12, -,u12⟩:=DataW.trod_int Tryz.underlying3 j0
     obtain ⟨na,nc,N,e13,hN,hfit⟩:=sl_dns_of j2 w5
     -- the observations
     obtain ⟨xs,n5, -, -, -,hlen5,hg5⟩:=DataW.trod_struct Tryz.underlying39 h5
     match xs,hlen5 with
     |[z3,z4],_=>
      have j3:DataW.trod enc Tryz.prog w 0 (fun _=>true) held n5 3 [c17]=some z3:=by have h:=hg5 0 _ rfl;simp [k1] at h;exact h
      have j4:DataW.trod enc Tryz.prog w 0 (fun _=>true) held n5 37 [c18]=some z4:=by have h:=hg5 1 _ rfl;simp [k19] at h;exact h
      obtain ⟨x17,e17, -,u17⟩:=DataW.trod_int Tryz.underlying3 j3
      obtain ⟨oa,oc,ol,e18,hO⟩:=sl_trs_of j4
      -- the hypothesis
      obtain ⟨xs,n6, -, -, -,hlen6,hg6⟩:=DataW.trod_struct Tryz.underlying43 h6
      match xs,hlen6 with
      |[z5,z6],_=>
       have j5:DataW.trod enc Tryz.prog w 0 (fun _=>true) held n6 41 [c19,c20,c21,c22]=some z5:=by have h:=hg6 0 _ rfl;simp [k16] at h;exact h
       have j6:DataW.trod enc Tryz.prog w 0 (fun _=>true) held n6 27 [c23]=some z6:=by have h:=hg6 1 _ rfl;simp [k3] at h;exact h
       obtain ⟨m,an,cn,ao,co,e19,e20,e21,e22,hM⟩:=ma_of j5
       obtain ⟨za,zc,zl,e23,hZ⟩:=sl_rows_of j6
       simp only [List.cons.injEq,and_true] at ec e1 e7 e8 e12 e13 e17 e18 e23
       obtain ⟨ec0,ec1,ec2,ec3,ec4,ec5,ec6,ec7⟩:=ec
       subst ec0 ec1 ec2 ec3 ec4 ec5 ec6 ec7 e1 e7 e8 e12 e13 e17 e18 e19 e20 e21 e22 e23 t0 t1 t2 t3 t4 t5
       exact ⟨⟨cg,x1,x7,x8,⟨x17,ol⟩,T,x12,N,T',⟨m,zl⟩⟩,⟨oa,oc,pa,pc,qa,qc,na,nc,ua,uc,va,vc,an,cn,ao,co,za,zc⟩,rfl,
        ⟨⟨i1,i2,i3,i4,i5,i6,i7,i8,wf_i64 u1,wf_i64 u7,wf_i64 u8,wf_i64 u17,ht.inputs,wf_i64 u12,ht'.inputs,hM.inputs,hM.start⟩,hO,ht.pre,ht.suf,hN,ht'.pre,ht'.suf,hM.next,hM.out,hZ⟩,hfit⟩
end
end Go.Proofs.YtjmbphjgiodioaaGreatDoor
