/- Lemmas, each with its own conditions. -/
import Derived.Test.YtjagagpcjpcjjaaGreatMw44
import Derived.Test.YtjagagpcjpcjjaaGreatMw17
set_option maxRecDepth 100000
set_option maxHeartbeats 32000000
namespace Go.Proofs.YtjagagpcjpcjjaaGreat
open Tryz
open Go.RowKit Go.Joins Go.ChangeShapes Go.WideShapes Go.Deep
section
variable {H:Type} {enc:TypeId×Value->H} {w:World} {held:Bool} {fuel:Nat} {cs:List Value} {x:DataW H×List MemPlace}
theorem Nb {t:TypeId} {f0 f1 f2 f3 f4:Field} (ht:prog.underlying t=some (.struct #[f0,f1,f2,f3,f4])) (h:DataW.trod enc prog w 0 (fun _=>true) held fuel t cs=some x):∃y0 y1 y2 y3 y4 n,DataW.trod enc prog w 0 (fun _=>true) held n f0.type ((cs.drop f0.offset).take (prog.cellsOf f0.type))=some y0/\ DataW.trod enc prog w 0 (fun _=>true) held n f1.type ((cs.drop f1.offset).take (prog.cellsOf f1.type))=some y1/\DataW.trod enc prog w 0 (fun _=>true) held n f2.type ((cs.drop f2.offset).take (prog.cellsOf f2.type))=some y2/\ DataW.trod enc prog w 0 (fun _=>true) held n f3.type ((cs.drop f3.offset).take (prog.cellsOf f3.type))=some y3/\DataW.trod enc prog w 0 (fun _=>true) held n f4.type ((cs.drop f4.offset).take (prog.cellsOf f4.type))=some y4:=by
 obtain ⟨xs,n,_,rfl,hl,iX,hf⟩:=DataW.trod_struct ht h;match xs,iX with
 |[y0,y1,y2,y3,y4],_=>exact ⟨y0,y1,y2,y3,y4,n,iq (hf 0 f0 rfl),iq (hf 1 f1 rfl),iq (hf 2 f2 rfl),iq (hf 3 f3 rfl),iq (hf 4 f4 rfl)⟩
theorem CQ:prog.cellsOf 27=5/\prog.cellsOf 3=1/\prog.cellsOf 25=1:=⟨aB,aB,aB⟩
theorem wf_u64 {x:Int} (h:(Lit.int .u64 x).wf=true):∃n:Nat,x=(n:Int)/\n<jQ:=by
 have h1:=bounds_u64 h;obtain ⟨n,rfl⟩:=b_ (show 0<=x by omega);exact ⟨n,rfl,by unfold jQ;omega⟩
theorem acF {r:Reach} {b0:Nat} {v:Value} {d:DataW H} {p:List MemPlace} (hv:Value.okWide prog w r b0 27 v) (h:DataW.Trod enc prog w 0 (fun _=>true) held 27 v d p):∃s:lK,v=stV s/\s.seed<jQ:=by
 obtain ⟨cs,rfl,hsz⟩:=okWide_struct underlying27 hv;obtain ⟨c0,c1,c2,c3,c4,rfl⟩:=afM (hsz.trans CQ.1);obtain ⟨fuel,hf⟩:=h;obtain ⟨y0,y1,y2,y3,y4,n,h0,h1,h2,h3,h4⟩:=Nb underlying27 hf;simp only [Value.cells,CQ.2.1,CQ.2.2,List.drop_zero,asj,List.take_succ_cons,asc] at h0 h1 h2 h3 h4;obtain ⟨x0,e0, -,w0⟩:=aqF underlying3 h0;obtain ⟨x1,e1, -,w1⟩:=aqF underlying3 h1;obtain ⟨x2,e2, -,w2⟩:=aqF underlying25 h2;obtain ⟨x3,e3, -,w3⟩:=aqF underlying3 h3;obtain ⟨x4,e4, -,w4⟩:=aqF underlying3 h4;simp at e0 e1 e2 e3 e4;subst e0 e1 e2 e3 e4;obtain ⟨n2,rfl,hn⟩:=wf_u64 w2;exact ⟨⟨x0,x1,n2,x3,x4⟩,rfl,hn⟩
end
