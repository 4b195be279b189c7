/- Several texts, one behind the other. Conditions: as each of them says. -/
import Derived.Test.YtjagagpcjpcjjaaGreatMc46
import Derived.Test.YtjagagpcjpcjjaaGreatMc18
set_option maxRecDepth 100000
set_option maxHeartbeats 32000000
namespace Go.Proofs.YtjagagpcjpcjjaaGreat
open Go.RowKit Go.Joins Go.ChangeShapes Go.WideShapes Go.Deep
section
variable {H:Type} {enc:TypeId×Value→H} {w:World} {held:Bool} {fuel:Nat} {cs:List Value} {x:DataW H×List MemPlace}
theorem trod_struct5 {t:TypeId} {f0 f1 f2 f3 f4:Field} (ht:Tryz.prog.underlying t=some (.struct #[f0,f1,f2,f3,f4])) (h:DataW.trod enc Tryz.prog w 0 (fun _=>true) held fuel t cs=some x):
    ∃y0 y1 y2 y3 y4 n,DataW.trod enc Tryz.prog w 0 (fun _=>true) held n f0.type ((cs.drop f0.offset).take (Tryz.prog.cellsOf f0.type))=some y0∧
     DataW.trod enc Tryz.prog w 0 (fun _=>true) held n f1.type ((cs.drop f1.offset).take (Tryz.prog.cellsOf f1.type))=some y1∧DataW.trod enc Tryz.prog w 0 (fun _=>true) held n f2.type ((cs.drop f2.offset).take (Tryz.prog.cellsOf f2.type))=some y2∧
     DataW.trod enc Tryz.prog w 0 (fun _=>true) held n f3.type ((cs.drop f3.offset).take (Tryz.prog.cellsOf f3.type))=some y3∧DataW.trod enc Tryz.prog w 0 (fun _=>true) held n f4.type ((cs.drop f4.offset).take (Tryz.prog.cellsOf f4.type))=some y4:=by
 obtain ⟨xs,n,_,rfl,hl,hlen,hf⟩:=DataW.trod_struct ht h
 match xs,hlen with
 |[y0,y1,y2,y3,y4],_=>exact ⟨y0,y1,y2,y3,y4,n,by simpa using hf 0 f0 rfl,by simpa using hf 1 f1 rfl,by simpa using hf 2 f2 rfl,by simpa using hf 3 f3 rfl,by simpa using hf 4 f4 rfl⟩
theorem cells_stg:Tryz.prog.cellsOf 27=5∧Tryz.prog.cellsOf 3=1∧Tryz.prog.cellsOf 25=1:=⟨by kernel_rfl,by kernel_rfl,by kernel_rfl⟩
theorem wf_u64 {x:Int} (h:(Lit.int .u64 x).wf=true):∃n:Nat,x=(n:Int)∧n<M64:=by
 have h1:=bounds_u64 h
 obtain ⟨n,rfl⟩:=Int.eq_ofNat_of_zero_le (show 0≤x by omega)
 exact ⟨n,rfl,by unfold M64;omega⟩
theorem open_stg {r:Reach} {b0:Nat} {v:Value} {d:DataW H} {p:List MemPlace} (hv:Value.okWide Tryz.prog w r b0 27 v) (h:DataW.Trod enc Tryz.prog w 0 (fun _=>true) held 27 v d p):
    ∃s:Stg,v=stV s∧s.seed<M64:=by
 obtain ⟨cs,rfl,hsz⟩:=okWide_struct Tryz.underlying27 hv
 obtain ⟨c0,c1,c2,c3,c4,rfl⟩:=array5 (hsz.trans cells_stg.1)
 obtain ⟨fuel,hf⟩:=h
 obtain ⟨y0,y1,y2,y3,y4,n,h0,h1,h2,h3,h4⟩:=trod_struct5 Tryz.underlying27 hf
 simp only [Value.cells,cells_stg.2.1,cells_stg.2.2,List.drop_zero,List.drop_succ_cons,List.take_succ_cons,List.take_zero] at h0 h1 h2 h3 h4
 obtain ⟨x0,e0, -,w0⟩:=DataW.trod_int Tryz.underlying3 h0
 obtain ⟨x1,e1, -,w1⟩:=DataW.trod_int Tryz.underlying3 h1
 obtain ⟨x2,e2, -,w2⟩:=DataW.trod_int Tryz.underlying25 h2
 obtain ⟨x3,e3, -,w3⟩:=DataW.trod_int Tryz.underlying3 h3
 obtain ⟨x4,e4, -,w4⟩:=DataW.trod_int Tryz.underlying3 h4
 simp at e0 e1 e2 e3 e4
 subst e0 e1 e2 e3 e4
 obtain ⟨n2,rfl,hn⟩:=wf_u64 w2
 exact ⟨⟨x0,x1,n2,x3,x4⟩,rfl,hn⟩
end
end Go.Proofs.YtjagagpcjpcjjaaGreat
