import Derived.Test.YtmlmfpikncogpaaGreatL30
namespace Go.Proofs.YtmlmfpikncogpaaGreat
open Go.RowKit
set_option linter.unusedSimpArgs false
set_option linter.unusedVariables false
set_option maxRecDepth 100000
set_option maxHeartbeats 16000000
theorem dG {P:Program} {w:World} {o:Oper} {a:Act} {K:Act->World->Prop} {Q:Exit->Act->World->Prop} (e:TypeId) (x y:Operand) (n:o.op=.store e x y)
 (g off:Nat) (q:a.eval x=.pointer (some (U g off))) (t:TypeId) (cs b:List Value) (r:a.eval y=.agg b.toArray) (k:Blk w g t cs.toArray)
 (l:(P.info? e).map (·.size)=some b.length) (c:off+b.length<=cs.length) (m:∀v∈b,v.oneCell'=true)
 (h:∀w',Z (Blk w' g t (splice cs off b).toArray)->aa [g] w w'->K (a.put o.dst undef) w'):Oper.wp P o a w K Q:=by
  have j:=run_storeCells_at P g off t b 0 cs.toArray w k (by simpa using c) m;have d:(storeVar e (U g off) (.agg b.toArray)).run P w=.ok () (w.setRow g (splice cs off b).toArray):=by
   cases f:P.info? e with
   | none=>simp[f] at l
   | some i=>
    have p:i.size=b.length:=by simpa [f] using l
    simp[storeVar,DM,sizeOf,typeInfo,f,p,Value.cells,j,splice]
  unfold Oper.wp execOp;simp only[n,q,r,Instr.storeAt,Instr.sureAddr,DM,DZ,DH,d];exact h _ (bZ (setRow_heap w g _ _ t _ k)) ((aa.refl [g] w).setRow (g:=g) (.inl (CZ.2 rfl)) _)
theorem mw {w:World} {b e s n c:Nat} {A:Option Addr} {f:List Value} (h:w.ownsRow b e s (.slice A n c) n f) (r:0<n):∃g a,A=V g/\b<=g/\g<w.heap.size/\Blk w g e (a:List Value).toArray/\n*s<=a.length/\a.take (n*s)=f:=by
 rcases h.2 with ⟨_,p⟩ | ⟨g,i,a,o,j,d,k,q,l,m⟩
 ·omega
 injection o with hA _ _;exact⟨g,a.toList,hA,j,Blk.lt (cs:=a) (t:=e) d,d,by rw[DO,l];exact Nat.mul_le_mul_right _ k,m⟩
theorem pR {w:World} {g t off m:Nat} {a b f:List Value} (h:Blk w g t (splice a off b).toArray) (k:a.take m=f) (l:off+b.length<=m) (n:m<=a.length):aL w (fun x=>x=g) (V g) (splice f off b):=fun j v c=>by
 refine⟨g,0,rfl,rfl,?_⟩;rw[h.cell,Dl];subst k;unfold splice at c ⊢;have e:(a.take off++b).length=off+b.length:=by rw[CU,CY];omega
 have i:(a.take m).take off=a.take off:=by rw[Eu,Es (by omega)]
 rw[i,List.drop_take] at c;rw[DW];rw[<-Dd] at c ⊢;by_cases d:j<off+b.length
 ·rw[DC (by rw[e];exact d)] at c ⊢;exact c
 rw[Dv (by rw[e];omega)] at c ⊢;rw[Dx] at c
 split at c
 ·exact c
 cases c
theorem kP:∀(l:List gn) (i:Nat) (q:gn),i<l.length->cH (l.set i q)=splice (cH l) (i*3) q.vals
 | [],i,q,h=>by simp at h
 | x::r,0,q,h=>rfl
 | x::r,i+1,q,h=>by
  have a:=kP r i q (by simpa using h);show x.vals++cH (r.set i q)=_;rw[a,show (i+1)*3=i*3+1+1+1 by omega];rfl
theorem aJ.set {α β:Type} {R:α->β->Prop} {a:α} {b:β} (c:R a b):∀ {l:List α} {k:List β} (i:Nat),aJ R l k->aJ R (l.set i a) (k.set i b)
 | [],[],i,_=>trivial
 | _::_,_::_,0,h=>⟨c,h.2⟩
 | _::_,_::_,i+1,h=>⟨h.1,aJ.set c i h.2⟩
 | [],_::_,_,h=>h.elim
 | _::_,[],_,h=>h.elim
def lf (w:World) (X:List Nat) (A:Option Addr) (n c:Nat) (ts:List TS) (tb id:Int) (old a:List Val) (e:Ending) (w':World):Prop:=
 (chk ts tb id old a≠0/\e=.returned (.tuple #[.slice A n c,I (chk ts tb id old a)])/\Z (aa [] w w'))\/
 (chk ts tb id old a=0/\∃t,ts[tb.toNat]? =some t/\∃A' c',e=.returned (.tuple #[.slice A' n c',I 0])/\Z (bY w' X A' (ts.set tb.toNat (eH t id a)))/\Z (aa [] w w'))
theorem xG (w:World) (X:List Nat) (A:Option Addr) (n c:Nat) (ts:List TS) (hS:bY w X A ts) (c7:ts.length=n) (hn:n<=1000) (hX:∀x∈X,x<w.heap.size) (bl:∀t∈ts,t.cols<=10000) (cj:∀t∈ts,fN t.l/\t.next<=4611686018427387905/\t.l.length<=1000000)
 (tb id:Int) (oA nA:Option Addr) (H oc C nc:Nat) (old s:List Val) (ho:old.length=H) (c5:s.length=C) (hO:ah w X oA old) (hN:ah w X nA s) (e6:H<=1000) (e5:C<=1000) (ch:∀v∈old,v.fits) (cd:∀v∈s,v.fits):
 Calls Tryz.prog 33 #[.slice A n c,.agg #[I tb,I id,.slice oA H oc,.slice nA C nc]] w (lf w X A n c ts tb id old s):=by
  have kb:aa [] w (w.alloc (.cells #[I (tb:Int),I id,.slice oA H oc,.slice nA C nc] 64)):=(aa.refl [] w).alloc _;have B0:=Blk.new w 64 #[I (tb:Int),I id,.slice oA H oc,.slice nA C nc];have e7:w.heap.size+1=(w.alloc (.cells #[I (tb:Int),I id,.slice oA H oc,.slice nA C nc] 64)).heap.size:=by simp
  generalize e8:w.alloc (.cells #[I (tb:Int),I id,.slice oA H oc,.slice nA C nc] 64)=w1 at*;have yn:∀k i,(w1.drewN k).cell? (U w.heap.size i)=#[I (tb:Int),I id,.slice oA H oc,.slice nA C nc][i]?:=fun k i=>B0.cell i;have b2:old=[]↔H=0:=by rw[<-ho];exact List.length_eq_zero_iff.symm
  have a8:s=[]↔C=0:=by rw[<-c5];exact List.length_eq_zero_iff.symm
  have Y:Z (∀W r,chk ts tb id old s=r->r≠0->aa [] w1 W->lf w X A n c ts tb id old s (.returned (.tuple #[.slice A n c,I r])) W):=bZ (fun W r hr h0 k=>.inl ⟨by rw[hr];exact h0,by rw[hr],bZ (kb.trans k)⟩);by_cases hr:tb<0\/(n:Int)<=tb
  ·have hc:=zd (ts:=ts) (tb:=tb) (by rw[c7];exact hr) id old s;have f:=bZ (fun W k=>Y.o W 1 hc (by decide) k);clear Y hc hS hO hN ch cd cj;by_cases h0:tb<0
   ·clear hr;go_enter Tryz.func33,Tryz.ntmps33;go_wp2_with fail;refine ad (S:=(fun w':World=>∀i,w'.cell? (U w.heap.size i)=#[I (tb:Int),I id,.slice oA H oc,.slice nA C nc][i]?)) (n:=50) (by kernel_rfl) ?_;have b:∀i,w1.drew.cell? (U w.heap.size i)=#[I (tb:Int),I id,.slice oA H oc,.slice nA C nc][i]?:=yn 1;refine ord [0,1,2,3,4,5,6,7,8,9,10,11,12,13,14,15,16,17,18,19,20,21,22,23,24,25,26,27,28,29,30,31,32,33,34,35,36,37,38,39,40,41,42,43,44,45,46,47,48,49] ?_
    iterate 50 (first | (refine tu b ?_;try simp only[PT,Y1,Y2,Y3]) | (refine tq b ?_;try simp only[PT,Y1,Y2,Y3]))
    refine av ?_;refine JD ?_;go_wp2_with fail;go_ret2;exact f.o _ ((aa.refl [] w1).drewN 1)
   have h1:(n:Int)<=tb:=by omega
   have e4:(tb<0)=False:=eq_false h0;have e2:decide (tb<0)=false:=decide_eq_false h0;clear hr;go_enter Tryz.func33,Tryz.ntmps33;go_wp2_with fail;refine ad (S:=(fun w':World=>∀i,w'.cell? (U w.heap.size i)=#[I (tb:Int),I id,.slice oA H oc,.slice nA C nc][i]?)) (n:=50) (by kernel_rfl) ?_;have b:∀i,w1.drew.cell? (U w.heap.size i)=#[I (tb:Int),I id,.slice oA H oc,.slice nA C nc][i]?:=yn 1;refine ord [0,1,2,3,4,5,6,7,8,9,10,11,12,13,14,15,16,17,18,19,20,21,22,23,24,25,26,27,28,29,30,31,32,33,34,35,36,37,38,39,40,41,42,43,44,45,46,47,48,49] ?_
   iterate 50 (first | (refine tu b ?_;try simp only[PT,Y1,Y2,Y3]) | (refine tq b ?_;try simp only[PT,Y1,Y2,Y3]))
   refine av ?_;refine JD ?_;go_wp2_with fail;go_ret2;exact f.o _ ((aa.refl [] w1).drewN 1)
  obtain⟨i,hi⟩:∃i:Nat,tb=(i:Int):=⟨tb.toNat,by omega⟩;subst hi;have da:i<n:=by omega
  obtain⟨t,ht⟩:∃t,ts[i]? =some t:=⟨_,CT (by omega)⟩;have bk:=tC ht id old s;obtain⟨cn,ct,cs⟩:=cj t (CW ht);obtain⟨qs,hR,hC⟩:=hS;obtain⟨q,hq,dn⟩:=hR.at ht;obtain⟨q1,q2,q3,q4⟩:=dn;obtain⟨g,off,rfl,cq,x0,x1,x2⟩:=lu hC hq;rw[q1] at x0;rw[q3] at x2;obtain⟨tc,l,tn⟩:=t;dsimp only at q1 q2 q3 q4 cn ct cs x0 x2;obtain⟨a,qA,qn,qc,M⟩:=q;dsimp only at q1 q2 q3 q4 x1;subst q1 q2 q3;obtain⟨ln,ba⟩:∃ln,l.length=ln:=⟨_,rfl⟩;rw[ba] at x1 cs;have T:Z (∀W,aa [] w1 W->(∀j,W.cell? (U w.heap.size j)=#[I (i:Int),I id,.slice oA H oc,.slice nA C nc][j]?)/\W.cell? (U g (off+i*3))=some (I (a:Int))/\W.cell? (U g (off+i*3+1))=G qA ln qc/\W.cell? (U g (off+i*3+2))=some (I M)):=bZ (fun W k=>
   ⟨(B0.keep k (by simp)).cell,(kb.trans k).cellEq x0 (by simp),(kb.trans k).cellEq x1 (by simp),(kb.trans k).cellEq x2 (by simp)⟩)
  have CS:Z (∀W,aa [] w1 W->Calls Tryz.prog 65 #[I (a:Int),.slice nA C nc] W fun e w'=>e=.returned (.bool (eq a s))/\Z (aa [] W w')):=bZ (fun W k=>jB W X a nA s C nc c5 (hN.shift (kb.trans k) (by simp) (fun x hx=>.inl hx)) (by omega) cd);have CG:Z (∀W,aa [] w1 W->Calls Tryz.prog 66 #[.agg #[I (a:Int),.slice qA ln qc,I M],I id] W (le W X id l)):=bZ (fun W k=>Bq W X a qA ln qc M id l ba (q4.shift (kb.trans k) (by simp) (fun x hx=>.inl hx)) (by omega));have bp:Z (∀row,cJ id l=some row->row.length<=10000/\∀v∈row,v.fits):=bZ (fun row hg=>by
   obtain⟨rs,hR,_⟩:=q4;obtain⟨r,_,he⟩:=hR.right (id,row) (p8 hg);exact⟨by have:=he.2.2.2.1;dsimp only at this;rw[this];exact bl _ (CW ht),fun v hv=>dI (he.2.2.2.2 v hv)⟩)
  have CE:Z (∀W A row m c,aa [] w1 W->row.length=m->ah W X A row->m<=10000->(∀v∈row,v.fits)->Calls Tryz.prog 48 #[.slice A m c,.slice oA H oc] W fun e w'=>e=.returned (.bool (decide (row=old)))/\Z (aa [] W w')):=bZ (fun W A row m c k h1 h2 h3 h4=>xx W X X A oA row old m c H oc h1 ho h2 (hO.shift (kb.trans k) (by simp) (fun x hx=>.inl hx)) h3 (by omega) h4 ch);have CD:Z (∀W X',aa [] w1 W->(∀x∈X',x∈X\/w.heap.size<=x)->(∀x∈X',x<W.heap.size)->Calls Tryz.prog 67 #[.agg #[I (a:Int),.slice qA ln qc,I M],I id] W (f8 W X' a (bS id l) M)):=bZ (fun W X' k h1 h2=>vE W X' a qA ln qc M id l ba (q4.shift (kb.trans k) (by simp) h1) (by omega) h2);have CP:Z (∀W X',1<=id->id<=4611686018427387904->eq a s=true->aa [] w1 W->(∀x∈X',x∈X\/w.heap.size<=x)->(∀x∈X',x<W.heap.size)->Calls Tryz.prog 68 #[.agg #[I (a:Int),.slice qA ln qc,I M],I id,.slice nA C nc] W (fun e w'=>∃v,e=.returned (.tuple #[v,I 0])/\f8 W X' a (fu id s l) (max M (id+1)) (.returned v) w')):=bZ (fun W X' d1 d2 d3 k h1 h2=>Bn W X' a qA ln qc M id l ba (q4.shift (kb.trans k) (by simp) h1) (by omega) h2 cn nA C nc s c5 (hN.shift (kb.trans k) (by simp) h1) (by omega) d1 d2 d3 ct);have b8:Z (∀W,aa [] w1 W->bm W (some (U g off)) n (cH qs)):=bZ (fun W k=>(hC.move (kb.trans k) (fun x _ _=>⟨by simp,trivial⟩):aL W (fun _=>True) _ _).src (by rw[pk,hR.len,c7]) (by decide));have c0:Z ((cH qs).length=n*3):=bZ (by rw[pk,hR.len,c7]);have b7:Z (∀W9 bs D p A9 n9 c9 l' cb,aa [] w1 W9->w1.heap.size<=D->Blk bs D 115 (splice p (i*3) [I (a:Int),.slice A9 n9 c9,I cb]).toArray->p.take (n*3)=cH qs->n*3<=p.length->aa [D] W9 bs->gg W9 (D::X) A9 a l'->l'.length=n9->bY bs X (V D) (ts.set i ⟨a,l',cb⟩)):=bZ (fun W9 bs D p A9 n9 c9 l' cb k9 Q hB cp d7 J hI dl=>by
   have dr:=kb.size;refine⟨qs.set i ⟨a,A9,n9,c9,cb⟩,aJ.set ⟨rfl,dl.symm,rfl,hI.shift J (fun y hy=>.inl (by simp at hy;simp[hy])) (fun x hx=>.inl (by simp[hx]))⟩ i (aJ.mono hR (fun r _ x _ h=>h.shift ((kb.trans k9).more J (fun y hy=>by simp at hy;subst hy;exact .inr (by omega))) (by simp) (fun x hx=>.inl hx))),?_⟩;rw[kP _ _ _ (by rw[hR.len,c7];exact da)];refine(pR (m:=n*3) hB cp (by simp;omega) d7).imp (fun x hx=>?_);subst hx;exact fun hm=>by have:=hX _ hm;omega)
  have ac:Z (∀e W,jY ⟨a,l,M⟩ id old s=0->(∃A' c',e=.returned (.tuple #[.slice A' n c',I 0])/\Z (bY W X A' (ts.set i (eH ⟨a,l,M⟩ id s))))->aa [] w1 W->lf w X (some (U g off)) n c ts (i:Int) id old s e W):=bZ (fun e W h0 h k=>by
   obtain⟨A',c',h1,h2⟩:=h;exact .inr ⟨by rw[bk];exact h0,_,by rw[EH];exact ht,A',c',h1,by rw[EH];exact h2,bZ (kb.trans k)⟩)
  have P:Z (∀W r,jY ⟨a,l,M⟩ id old s=r->r≠0->aa [] w1 W->lf w X (some (U g off)) n c ts (i:Int) id old s (.returned (.tuple #[.slice (some (U g off)) n c,I r])) W):=bZ (fun W r h1 h2 k=>Y.o W r (by rw[bk];exact h1) h2 k);have bt:Z (∀W D,aa [] w1 W->w1.heap.size<=D->D<W.heap.size->(∀x∈D::X,x∈X\/w.heap.size<=x)/\(∀x∈D::X,x<W.heap.size)):=bZ (fun W D k h1 h2=>by
   have dr:=kb.size;have e3:=k.size;refine⟨fun x hx=>?_,fun x hx=>?_⟩
   ·rcases Db.1 hx with rfl | hx
    ·exact .inr (by omega)
    exact .inl hx
   rcases Db.1 hx with rfl | hx
   ·exact h2
   have:=hX x hx;omega)
  have a9:jY ⟨a,l,M⟩ id old s=if id<1\/4611686018427387904<id\/(old=[]/\s=[])\/(s≠[]/\eq a s=false) then 1 else if old=[]/\dm id l=true then 5 else if old≠[]/\cJ id l≠some old then 4 else 0:=rfl
  have b6:dm id l=(cJ id l).isSome:=kL;obtain⟨i0,hi,bb,bd,bh⟩:=info_parts uA;replace hi:=bZ hi;replace bb:=bZ bb;replace bd:=bZ bd;replace bh:=bZ bh;replace bp:=bp;generalize d6:jY ⟨a,l,M⟩ id old s=rr at a9 ac P;clear Y bk d6 hR hC hq cj bl ht hO hN ch cd x0 x1 x2 q4 B0 yn hX cn ho c5;replace a9:=bZ a9;replace b6:=bZ b6;replace b2:=bZ b2;replace a8:=bZ a8;replace ba:=bZ ba;have Q:=bZ cq;clear cq;have g0:((i:Int)<0)=False:=eq_false (by omega);have d4:decide ((i:Int)<0)=false:=decide_eq_false (by omega);have g1:((n:Int)<=(i:Int))=False:=eq_false (by omega);have d5:decide ((n:Int)<=(i:Int))=false:=decide_eq_false (by omega);have g2:(i:Int)<(n:Int):=by omega
  by_cases c1:id<1
  ·have f:=bZ (fun W k=>P.o W 1 (by rw[a9.o,if_pos (.inl c1)]) (by decide) k);go_enter Tryz.func33,Tryz.ntmps33;go_wp2_with fail;refine ad (S:=(fun w':World=>(∀j,w'.cell? (U w.heap.size j)=#[I (i:Int),I id,.slice oA H oc,.slice nA C nc][j]?)/\w'.cell? (U g (off+i*3))=some (I (a:Int))/\w'.cell? (U g (off+i*3+1))=G qA ln qc/\w'.cell? (U g (off+i*3+2))=some (I M))) (n:=50) (by kernel_rfl) ?_;have b:=T.o w1.drew ((aa.refl [] w1).drewN 1);refine ord [0,1,2,3,4,5,6,7,8,9,10,11,12,13,14,15,16,17,18,19,20,21,22,23,24,25,26,27,28,29,30,31,32,33,34,35,36,37,38,39,40,41,42,43,44,45,46,47,48,49] ?_
   iterate 50 (first | (refine tu b ?_;try simp only[PT,Y1,Y2,Y3]) | (refine tq b ?_;try simp only[PT,Y1,Y2,Y3]))
   refine av ?_;refine JD ?_;go_wp2_with fail;go_ret2;exact f.o _ ((aa.refl [] w1).drewN 1)
  have d1:(id<1)=False:=eq_false c1;have cv:decide (id<1)=false:=decide_eq_false c1;by_cases c2:(4611686018427387904:Int)<id
  ·have f:=bZ (fun W k=>P.o W 1 (by rw[a9.o,if_pos (.inr (.inl c2))]) (by decide) k);go_enter Tryz.func33,Tryz.ntmps33;go_wp2_with fail;refine ad (S:=(fun w':World=>(∀j,w'.cell? (U w.heap.size j)=#[I (i:Int),I id,.slice oA H oc,.slice nA C nc][j]?)/\w'.cell? (U g (off+i*3))=some (I (a:Int))/\w'.cell? (U g (off+i*3+1))=G qA ln qc/\w'.cell? (U g (off+i*3+2))=some (I M))) (n:=50) (by kernel_rfl) ?_;have b:=T.o w1.drew ((aa.refl [] w1).drewN 1);refine ord [0,1,2,3,4,5,6,7,8,9,10,11,12,13,14,15,16,17,18,19,20,21,22,23,24,25,26,27,28,29,30,31,32,33,34,35,36,37,38,39,40,41,42,43,44,45,46,47,48,49] ?_
   iterate 50 (first | (refine tu b ?_;try simp only[PT,Y1,Y2,Y3]) | (refine tq b ?_;try simp only[PT,Y1,Y2,Y3]))
   refine av ?_;refine JD ?_;go_wp2_with fail;go_ret2;exact f.o _ ((aa.refl [] w1).drewN 1)
  have d2:((4611686018427387904:Int)<id)=False:=eq_false c2;have d0:decide ((4611686018427387904:Int)<id)=false:=decide_eq_false c2;by_cases c3:H=0/\C=0
  ·have f:=bZ (fun W k=>P.o W 1 (by rw[a9.o,if_pos (.inr (.inr (.inl ⟨b2.o.2 c3.1,a8.o.2 c3.2⟩)))]) (by decide) k);have o1:((H:Int)==0)=true:=by rw[c3.1];rfl
   have n1:((0:Int)<(C:Int))=False:=eq_false (by omega);have ds:decide ((0:Int)<(C:Int))=false:=decide_eq_false (by omega);have co:(0<C)=False:=eq_false (by omega);have e0:decide (0<C)=false:=decide_eq_false (by omega);have n2:((C:Int)==0)=true:=by rw[c3.2];rfl
   clear c3;go_enter Tryz.func33,Tryz.ntmps33;go_wp2_with fail;refine ad (S:=(fun w':World=>(∀j,w'.cell? (U w.heap.size j)=#[I (i:Int),I id,.slice oA H oc,.slice nA C nc][j]?)/\w'.cell? (U g (off+i*3))=some (I (a:Int))/\w'.cell? (U g (off+i*3+1))=G qA ln qc/\w'.cell? (U g (off+i*3+2))=some (I M))) (n:=50) (by kernel_rfl) ?_;have b:=T.o w1.drew ((aa.refl [] w1).drewN 1);refine ord [0,1,2,3,4,5,6,7,8,9,10,11,12,13,14,15,16,17,18,19,20,21,22,23,24,25,26,27,28,29,30,31,32,33,34,35,36,37,38,39,40,41,42,43,44,45,46,47,48,49] ?_
   iterate 50 (first | (refine tu b ?_;try simp only[PT,Y1,Y2,Y3]) | (refine tq b ?_;try simp only[PT,Y1,Y2,Y3]))
   refine av ?_;refine JD ?_;go_wp2_with fail;go_ret2;exact f.o _ ((aa.refl [] w1).drewN 1)
  obtain⟨sb,b4⟩:∃sb,sb=eq a s:=⟨_,rfl⟩;rw[<-b4] at CS;replace b4:=bZ b4;by_cases c4:0<C/\sb=false
  ·have f:=bZ (fun W k=>P.o W 1 (by rw[a9.o,if_pos (.inr (.inr (.inr ⟨fun h=>by have:=a8.o.1 h;omega,by rw[<-b4.o];exact c4.2⟩)))]) (by decide) k);obtain⟨n0,rfl⟩:=c4;have n1:(0:Int)<(C:Int):=by omega
   have co:0<C:=by omega
   have n2:((C:Int)==0)=false:=beq_false_of_ne (by omega);by_cases o0:H=0
   ·have o1:((H:Int)==0)=true:=by rw[o0];rfl
    clear o0;go_enter Tryz.func33,Tryz.ntmps33;go_wp2_with fail;refine ad (S:=(fun w':World=>(∀j,w'.cell? (U w.heap.size j)=#[I (i:Int),I id,.slice oA H oc,.slice nA C nc][j]?)/\w'.cell? (U g (off+i*3))=some (I (a:Int))/\w'.cell? (U g (off+i*3+1))=G qA ln qc/\w'.cell? (U g (off+i*3+2))=some (I M))) (n:=50) (by kernel_rfl) ?_;have d:Z (aa [] w1 w1.drew):=bZ ((aa.refl [] w1).drewN 1);have b:=T.o w1.drew d.o;generalize w1.drew=wd at*;refine ord [0,1,2,3,4,5,6,7,8,9,10,11,12,13,14,15,16,17,18,19,20,21,22,23,24,25,26,27,28,29,30,31,32,33,34,35,36,37,38,39,40,41,42,43,44,45] ?_
    iterate 46 (first | (refine tu b ?_;try simp only[PT,Y1,Y2,Y3]) | (refine tq b ?_;try simp only[PT,Y1,Y2,Y3]))
    refine av ?_;refine J1 46 fun K O=>?_;dsimp only[Y1,Y2,Y3];go_simp;refine(CS.o _ d.o).mono ?_;rintro e w2 ⟨rfl,a4⟩;have b:=T.o w2 (d.o.trans a4.o);refine O _ _ (.inr b) ?_;clear O K
    try simp only[PT,Y1,Y2,Y3]
    refine ord [47,48,49] ?_
    iterate 3 (first | (refine tu b ?_;try simp only[PT,Y1,Y2,Y3]) | (refine tq b ?_;try simp only[PT,Y1,Y2,Y3]))
    refine av ?_;refine JD ?_;go_wp2_with fail;go_ret2;exact f.o _ (d.o.trans a4.o)
   have o1:((H:Int)==0)=false:=beq_false_of_ne (by omega);go_enter Tryz.func33,Tryz.ntmps33;go_wp2_with fail;refine ad (S:=(fun w':World=>(∀j,w'.cell? (U w.heap.size j)=#[I (i:Int),I id,.slice oA H oc,.slice nA C nc][j]?)/\w'.cell? (U g (off+i*3))=some (I (a:Int))/\w'.cell? (U g (off+i*3+1))=G qA ln qc/\w'.cell? (U g (off+i*3+2))=some (I M))) (n:=50) (by kernel_rfl) ?_;have d:Z (aa [] w1 w1.drew):=bZ ((aa.refl [] w1).drewN 1);have b:=T.o w1.drew d.o;generalize w1.drew=wd at*;refine ord [0,1,2,3,4,5,6,7,8,9,10,11,12,13,14,15,16,17,18,19,20,21,22,23,24,25,26,27,28,29,30,31,32,33,34,35,36,37,38,39,40,41,42,43,44,45] ?_
   iterate 46 (first | (refine tu b ?_;try simp only[PT,Y1,Y2,Y3]) | (refine tq b ?_;try simp only[PT,Y1,Y2,Y3]))
   refine av ?_;refine J1 46 fun K O=>?_;dsimp only[Y1,Y2,Y3];go_simp;refine(CS.o _ d.o).mono ?_;rintro e w2 ⟨rfl,a4⟩;have b:=T.o w2 (d.o.trans a4.o);refine O _ _ (.inr b) ?_;clear O K
   try simp only[PT,Y1,Y2,Y3]
   refine ord [47,48,49] ?_
   iterate 3 (first | (refine tu b ?_;try simp only[PT,Y1,Y2,Y3]) | (refine tq b ?_;try simp only[PT,Y1,Y2,Y3]))
   refine av ?_;refine JD ?_;go_wp2_with fail;go_ret2;exact f.o _ (d.o.trans a4.o)
  go_enter Tryz.func33,Tryz.ntmps33;go_wp2_with fail;go_cut [58] (fun v wx=>v=.bool false/\Z (aa [] w1 wx))
  case first=>
   by_cases n0:C=0
   ·have o1:((H:Int)==0)=false:=beq_false_of_ne (by omega);have n1:((0:Int)<(C:Int))=False:=eq_false (by omega);have ds:decide ((0:Int)<(C:Int))=false:=decide_eq_false (by omega);have co:(0<C)=False:=eq_false (by omega);have e0:decide (0<C)=false:=decide_eq_false (by omega);have n2:((C:Int)==0)=true:=by rw[n0];rfl
    clear n0;refine ad (S:=(fun w':World=>(∀j,w'.cell? (U w.heap.size j)=#[I (i:Int),I id,.slice oA H oc,.slice nA C nc][j]?)/\w'.cell? (U g (off+i*3))=some (I (a:Int))/\w'.cell? (U g (off+i*3+1))=G qA ln qc/\w'.cell? (U g (off+i*3+2))=some (I M))) (n:=50) (by kernel_rfl) ?_;have b:=T.o w1.drew ((aa.refl [] w1).drewN 1);refine ord [0,1,2,3,4,5,6,7,8,9,10,11,12,13,14,15,16,17,18,19,20,21,22,23,24,25,26,27,28,29,30,31,32,33,34,35,36,37,38,39,40,41,42,43,44,45,46,47,48,49] ?_
    iterate 50 (first | (refine tu b ?_;try simp only[PT,Y1,Y2,Y3]) | (refine tq b ?_;try simp only[PT,Y1,Y2,Y3]))
    refine av ?_;refine JD ?_;go_wp2_with fail;go_meet;exact⟨by first | rfl | trivial,bZ ((aa.refl [] w1).drewN 1)⟩
   obtain rfl:sb=true:=by cases sb with
    | true=>rfl
    | false=>exact absurd ⟨by omega,rfl⟩ c4
   have n1:(0:Int)<(C:Int):=by omega
   have co:0<C:=by omega
   have n2:((C:Int)==0)=false:=beq_false_of_ne (by omega);by_cases o0:H=0
   ·have o1:((H:Int)==0)=true:=by rw[o0];rfl
    clear o0;refine ad (S:=(fun w':World=>(∀j,w'.cell? (U w.heap.size j)=#[I (i:Int),I id,.slice oA H oc,.slice nA C nc][j]?)/\w'.cell? (U g (off+i*3))=some (I (a:Int))/\w'.cell? (U g (off+i*3+1))=G qA ln qc/\w'.cell? (U g (off+i*3+2))=some (I M))) (n:=50) (by kernel_rfl) ?_;have d:Z (aa [] w1 w1.drew):=bZ ((aa.refl [] w1).drewN 1);have b:=T.o w1.drew d.o;generalize w1.drew=wd at*;refine ord [0,1,2,3,4,5,6,7,8,9,10,11,12,13,14,15,16,17,18,19,20,21,22,23,24,25,26,27,28,29,30,31,32,33,34,35,36,37,38,39,40,41,42,43,44,45] ?_
    iterate 46 (first | (refine tu b ?_;try simp only[PT,Y1,Y2,Y3]) | (refine tq b ?_;try simp only[PT,Y1,Y2,Y3]))
    refine av ?_;refine J1 46 fun K O=>?_;dsimp only[Y1,Y2,Y3];go_simp;refine(CS.o _ d.o).mono ?_;rintro e w2 ⟨rfl,a4⟩;have b:=T.o w2 (d.o.trans a4.o);refine O _ _ (.inr b) ?_;clear O K
    try simp only[PT,Y1,Y2,Y3]
    refine ord [47,48,49] ?_
    iterate 3 (first | (refine tu b ?_;try simp only[PT,Y1,Y2,Y3]) | (refine tq b ?_;try simp only[PT,Y1,Y2,Y3]))
    refine av ?_;refine JD ?_;go_wp2_with fail;go_meet;exact⟨by first | rfl | trivial,bZ (d.o.trans a4.o)⟩
   have o1:((H:Int)==0)=false:=beq_false_of_ne (by omega);clear o0;refine ad (S:=(fun w':World=>(∀j,w'.cell? (U w.heap.size j)=#[I (i:Int),I id,.slice oA H oc,.slice nA C nc][j]?)/\w'.cell? (U g (off+i*3))=some (I (a:Int))/\w'.cell? (U g (off+i*3+1))=G qA ln qc/\w'.cell? (U g (off+i*3+2))=some (I M))) (n:=50) (by kernel_rfl) ?_;have d:Z (aa [] w1 w1.drew):=bZ ((aa.refl [] w1).drewN 1);have b:=T.o w1.drew d.o;generalize w1.drew=wd at*;refine ord [0,1,2,3,4,5,6,7,8,9,10,11,12,13,14,15,16,17,18,19,20,21,22,23,24,25,26,27,28,29,30,31,32,33,34,35,36,37,38,39,40,41,42,43,44,45] ?_
   iterate 46 (first | (refine tu b ?_;try simp only[PT,Y1,Y2,Y3]) | (refine tq b ?_;try simp only[PT,Y1,Y2,Y3]))
   refine av ?_;refine J1 46 fun K O=>?_;dsimp only[Y1,Y2,Y3];go_simp;refine(CS.o _ d.o).mono ?_;rintro e w2 ⟨rfl,a4⟩;have b:=T.o w2 (d.o.trans a4.o);refine O _ _ (.inr b) ?_;clear O K
   try simp only[PT,Y1,Y2,Y3]
   refine ord [47,48,49] ?_
   iterate 3 (first | (refine tu b ?_;try simp only[PT,Y1,Y2,Y3]) | (refine tq b ?_;try simp only[PT,Y1,Y2,Y3]))
   refine av ?_;refine JD ?_;go_wp2_with fail;go_meet;exact⟨by first | rfl | trivial,bZ (d.o.trans a4.o)⟩
  case rest=>
   obtain⟨rfl,dc⟩:=hcut;have cc:¬(id<1\/4611686018427387904<id\/(old=[]/\s=[])\/(s≠[]/\eq a s=false)):=fun h=>by
    rcases h with h | h | h | h
    ·omega
    ·omega
    ·exact c3 ⟨b2.o.1 h.1,a8.o.1 h.2⟩
    exact c4 ⟨Nat.pos_of_ne_zero (fun h0=>h.1 (a8.o.2 h0)),by rw[b4.o];exact h.2⟩
   have c6:0<C->eq a s=true:=fun h0=>by
    rw[<-b4.o];cases hb:sb with
    | true=>rfl
    | false=>exact absurd ⟨h0,hb⟩ c4
   have an:Z (rr=if old=[]/\dm id l=true then 5 else if old≠[]/\cJ id l≠some old then 4 else 0):=bZ (by rw[a9.o,if_neg cc]);replace c6:=bZ c6;replace c1:=bZ c1;replace c2:=bZ c2;clear cc a9 c3 c4 b4 CS d1 d2 cv d0 g0 d4 g1 d5;go_wp2_with fail;refine ad (S:=(fun w':World=>(∀j,w'.cell? (U w.heap.size j)=#[I (i:Int),I id,.slice oA H oc,.slice nA C nc][j]?)/\w'.cell? (U g (off+i*3))=some (I (a:Int))/\w'.cell? (U g (off+i*3+1))=G qA ln qc/\w'.cell? (U g (off+i*3+2))=some (I M))) (n:=13) (by kernel_rfl) ?_;have d:Z (aa [] w1 wc.drew):=bZ dc.o.drew;have b:=T.o wc.drew d.o;generalize wc.drew=wd at*;refine ord [0,1,2,3,4,5,6] ?_
   iterate 7 (refine tq b ?_;try simp only[PT,Y1,Y2,Y3])
   refine av ?_;refine J1 7 fun K O=>?_;dsimp only[Y1,Y2,Y3];go_simp;refine(CG.o _ d.o).mono ?_;rintro e w4 ⟨rA,rn,rc,rb,rfl,hb,dq,db,e9⟩;have E:Z (aa [] w1 w4):=bZ (d.o.trans db.o);have b:=T.o w4 E.o;refine O _ _ (.inr b) ?_;clear O K
   try simp only[PT,Y1,Y2,Y3]
   refine ord [8,9,10,11,12] ?_
   iterate 5 (refine tq b ?_;try simp only[PT,Y1,Y2,Y3])
   refine av ?_;refine JD ?_;obtain⟨y0,y1,y2,y3⟩:=b;by_cases o0:H=0
   ·have o1:((H:Int)==0)=true:=by rw[o0];rfl
    have o2:((0:Int)<(H:Int))=False:=eq_false (by omega);have ec:decide ((0:Int)<(H:Int))=false:=decide_eq_false (by omega);have e1:(0<H)=False:=eq_false (by omega);have ee:decide (0<H)=false:=decide_eq_false (by omega);cases rb with
    | true=>
     have f:=bZ (P.o w4 5 (by rw[an.o,if_pos ⟨b2.o.2 o0,hb.o.symm⟩]) (by decide) E.o);go_wp2_with fail;go_ret2;exact f.o
    | false=>
     have ak:Z (rr=0):=bZ (by rw[an.o,if_neg (fun h=>by rw[<-hb.o] at h;cases h.2),if_neg (fun h=>h.1 (b2.o.2 o0))]);have bn:0<n:=by omega
     by_cases n0:C=0
     ·have n2:((C:Int)==0)=true:=by rw[n0];rfl
      go_wp2_with (at_builtin;refine ae (by rfl) (.tmp 95) (.tmp 96) 33 rfl w4.heap.size 115 i0 (.agg #[I 0,.slice none 0 0,I 0]) 3 40 Tryz.underlying33 hi.o bb.o bd.o bh.o rfl (by decide) _ 0 [] rfl (bD w4 115 3) (some (U g off)) n c (cH qs) rfl c0.o (b8.o _ (E.o.alloc _)) (jl qs) (by unfold maxLen;omega) (by omega) ((aa.refl [] w4).alloc (.cells #[] 115)).size ?_;intro v8 R q1 q2 _ _;have k8:=bZ (E.o.trans (aF ((aa.refl [] w4).alloc (.cells #[] 115)) (aa.refl [] _) (bD w4 115 3) q2.o));have O8:Z (R.ownsRow w4.heap.size 115 3 v8 n (cH qs)):=bZ (by have:=q1.o;rwa [Dl,Dm] at this);clear q1 q2;obtain⟨A8,c8,rfl,_⟩:=aH O8.o;obtain⟨D,p,rfl,a3,a7,B8,z,u⟩:=mw O8.o bn;have Q:Z (w1.heap.size<=D):=bZ (Dc E.o.size a3);have L:=bt.o R D k8.o Q.o a7;replace L:=bZ L;replace B8:=bZ B8;replace z:=bZ z;replace u:=bZ u;clear O8 a3 a7;obtain⟨y0,y1,y2,y3⟩:=T.o R k8.o);refine ad (S:=(fun w':World=>(∀j,w'.cell? (U w.heap.size j)=#[I (i:Int),I id,.slice oA H oc,.slice nA C nc][j]?)/\w'.cell? (U g (off+i*3))=some (I (a:Int))/\w'.cell? (U g (off+i*3+1))=G qA ln qc/\w'.cell? (U g (off+i*3+2))=some (I M))) (n:=13) (by kernel_rfl) ?_;have d:Z (aa [] w1 R.drew):=bZ k8.o.drew;have b:=T.o R.drew d.o;have ap:Z (Blk R.drew D 115 p.toArray):=B8;have a1:Z ((∀x∈D::X,x∈X\/w.heap.size<=x)/\(∀x∈D::X,x<R.drew.heap.size)):=L;clear B8 L k8 y0 y1 y2 y3;generalize R.drew=wd at*;refine ord [0,1,2,3,4,5,6,7,8,9] ?_
      iterate 10 (refine tq b ?_;try simp only[PT,Y1,Y2,Y3])
      refine av ?_;refine J1 10 fun K O=>?_;dsimp only[Y1,Y2,Y3];go_simp;refine(CD.o _ (D::X) d.o a1.o.1 a1.o.2).mono ?_;rintro e w9 ⟨A9,n9,c9,rfl,b1,ar,a6⟩;have F:Z (aa [] w1 w9):=bZ (d.o.trans a6.o);have b:=T.o w9 F.o;have B9:Z (Blk w9 D 115 p.toArray):=bZ (ap.o.keep a6.o (by simp));refine O _ _ (.inr b) ?_;clear O K
      try simp only[PT,Y1,Y2,Y3]
      refine ord [11] ?_
      (refine tq b ?_;try simp only[PT,Y1,Y2,Y3])
      refine av ?_;refine J1 12 fun K O=>?_;dsimp only[Y1,Y2,Y3];rw[if_pos (by rfl)];refine dG 115 (.tmp 113) (.tmp 112) (by rfl) D (i*3) (by first | rfl | (rw[Dl];rfl)) 115 p [I (a:Int),.slice A9 n9 c9,I M] (by rfl) B9.o (by kernel_rfl) (by have:=z.o;simp;omega) (by simp[Value.oneCell']) ?_;intro N a2 B;have J:aa [] w1 N:=F.o.more B (fun y hy=>by simp at hy;subst hy;exact .inr Q.o);have b:=T.o N J;replace J:=bZ J;replace B:=bZ B;refine O _ _ (.inr b) ?_;clear O K
      try simp only[PT,Y1,Y2,Y3]
      refine JD ?_;have b3:eH ⟨a,l,M⟩ id s=⟨a,bS id l,M⟩:=by unfold eH;rw[if_pos (a8.o.2 n0)]
      have f:=bZ (ac.o (.returned (.tuple #[.slice (V D) n c8,I 0])) N ak.o ⟨_,_,rfl,bZ (by rw[b3];exact b7.o w9 N D p A9 n9 c9 _ _ F.o Q.o a2.o u.o z.o B.o ar.o b1)⟩ J.o);go_wp2_with fail;go_ret2;exact f.o
     have n2:((C:Int)==0)=false:=beq_false_of_ne (by omega);go_wp2_with (at_builtin;refine ae (by rfl) (.tmp 95) (.tmp 96) 33 rfl w4.heap.size 115 i0 (.agg #[I 0,.slice none 0 0,I 0]) 3 40 Tryz.underlying33 hi.o bb.o bd.o bh.o rfl (by decide) _ 0 [] rfl (bD w4 115 3) (some (U g off)) n c (cH qs) rfl c0.o (b8.o _ (E.o.alloc _)) (jl qs) (by unfold maxLen;omega) (by omega) ((aa.refl [] w4).alloc (.cells #[] 115)).size ?_;intro v8 R q1 q2 _ _;have k8:=bZ (E.o.trans (aF ((aa.refl [] w4).alloc (.cells #[] 115)) (aa.refl [] _) (bD w4 115 3) q2.o));have O8:Z (R.ownsRow w4.heap.size 115 3 v8 n (cH qs)):=bZ (by have:=q1.o;rwa [Dl,Dm] at this);clear q1 q2;obtain⟨A8,c8,rfl,_⟩:=aH O8.o;obtain⟨D,p,rfl,a3,a7,B8,z,u⟩:=mw O8.o bn;have Q:Z (w1.heap.size<=D):=bZ (Dc E.o.size a3);have L:=bt.o R D k8.o Q.o a7;replace L:=bZ L;replace B8:=bZ B8;replace z:=bZ z;replace u:=bZ u;clear O8 a3 a7;obtain⟨y0,y1,y2,y3⟩:=T.o R k8.o);refine ad (S:=(fun w':World=>(∀j,w'.cell? (U w.heap.size j)=#[I (i:Int),I id,.slice oA H oc,.slice nA C nc][j]?)/\w'.cell? (U g (off+i*3))=some (I (a:Int))/\w'.cell? (U g (off+i*3+1))=G qA ln qc/\w'.cell? (U g (off+i*3+2))=some (I M))) (n:=18) (by kernel_rfl) ?_;have d:Z (aa [] w1 R.drew):=bZ k8.o.drew;have b:=T.o R.drew d.o;have ap:Z (Blk R.drew D 115 p.toArray):=B8;have a1:Z ((∀x∈D::X,x∈X\/w.heap.size<=x)/\(∀x∈D::X,x<R.drew.heap.size)):=L;clear B8 L k8 y0 y1 y2 y3;generalize R.drew=wd at*;refine ord [0,1,2,3,4,5,6,7,8,9,10,11] ?_
     iterate 12 (refine tq b ?_;try simp only[PT,Y1,Y2,Y3])
     refine av ?_;refine J1 12 fun K O=>?_;dsimp only[Y1,Y2,Y3];go_simp;refine(CP.o _ (D::X) (by have:=c1.o;omega) (by have:=c2.o;omega) (c6.o (by omega)) d.o a1.o.1 a1.o.2).mono ?_;rintro e w9 ⟨v9,rfl,A9,n9,c9,b5,b1,ar,a6⟩;injection b5 with b5;subst b5;have F:Z (aa [] w1 w9):=bZ (d.o.trans a6.o);have b:=T.o w9 F.o;have B9:Z (Blk w9 D 115 p.toArray):=bZ (ap.o.keep a6.o (by simp));refine O _ _ (.inr b) ?_;clear O K
     try simp only[PT,Y1,Y2,Y3]
     refine ord [13,14,15,16] ?_
     iterate 4 (refine tq b ?_;try simp only[PT,Y1,Y2,Y3])
     refine av ?_;refine J1 17 fun K O=>?_;dsimp only[Y1,Y2,Y3];rw[if_pos (by rfl)];refine dG 115 (.tmp 130) (.tmp 128) (by rfl) D (i*3) (by first | rfl | (rw[Dl];rfl)) 115 p [I (a:Int),.slice A9 n9 c9,I (max M (id+1))] (by rfl) B9.o (by kernel_rfl) (by have:=z.o;simp;omega) (by simp[Value.oneCell']) ?_;intro N a2 B;have J:aa [] w1 N:=F.o.more B (fun y hy=>by simp at hy;subst hy;exact .inr Q.o);have b:=T.o N J;replace J:=bZ J;replace B:=bZ B;refine O _ _ (.inr b) ?_;clear O K
     try simp only[PT,Y1,Y2,Y3]
     refine JD ?_;have b3:eH ⟨a,l,M⟩ id s=⟨a,fu id s l,max M (id+1)⟩:=by unfold eH;rw[if_neg (fun h=>n0 (a8.o.1 h))]
     have f:=bZ (ac.o (.returned (.tuple #[.slice (V D) n c8,I 0])) N ak.o ⟨_,_,rfl,bZ (by rw[b3];exact b7.o w9 N D p A9 n9 c9 _ _ F.o Q.o a2.o u.o z.o B.o ar.o b1)⟩ J.o);go_wp2_with fail;go_ret2;exact f.o
   have o1:((H:Int)==0)=false:=beq_false_of_ne (by omega);have o2:(0:Int)<(H:Int):=by omega
   have e1:0<H:=by omega
   have a0:¬old=[]:=fun h=>o0 (b2.o.1 h);cases rb with
   | false=>
    have f:=bZ (P.o w4 4 (by rw[an.o,if_neg (fun h=>a0 h.1),if_pos ⟨a0,by have h1:=b6.o;rw[<-hb.o] at h1;cases hq:cJ id l with
     | none=>simp
     | some r=>rw[hq] at h1;cases h1⟩]) (by decide) E.o)
    clear a0;go_wp2_with fail;go_ret2;exact f.o
   | true=>
    obtain⟨row,hg⟩:∃row,cJ id l=some row:=by
     have h1:=b6.o;rw[<-hb.o] at h1;cases hq:cJ id l with
     | none=>rw[hq] at h1;cases h1
     | some r=>exact⟨r,rfl⟩
    obtain⟨cr,cl⟩:=bp.o row hg;obtain⟨cm,ck⟩:=dq.o row hg;have bi:=bZ (CE.o w4 rA row rn rc E.o cm ck (by omega) cl);by_cases b9:row=old
    ·have ak:Z (rr=0):=bZ (by rw[an.o,if_neg (fun h=>a0 h.1),if_neg (fun h=>h.2 (by rw[hg,b9]))]);rw[decide_eq_true b9] at bi;clear a0 b9 cr cl cm ck hg;have bn:0<n:=by omega
     by_cases n0:C=0
     ·have n2:((C:Int)==0)=true:=by rw[n0];rfl
      go_wp2_with (first | (go_at_call 48;refine bi.o.mono ?_;rintro e w5 ⟨rfl,b0⟩;obtain⟨y0,y1,y2,y3⟩:=T.o w5 (E.o.trans b0.o);have a5:Z (aa [] w1 w5):=bZ (E.o.trans b0.o)) | (at_builtin;refine ae (by rfl) (.tmp 95) (.tmp 96) 33 rfl w5.heap.size 115 i0 (.agg #[I 0,.slice none 0 0,I 0]) 3 40 Tryz.underlying33 hi.o bb.o bd.o bh.o rfl (by decide) _ 0 [] rfl (bD w5 115 3) (some (U g off)) n c (cH qs) rfl c0.o (b8.o _ (a5.o.alloc _)) (jl qs) (by unfold maxLen;omega) (by omega) ((aa.refl [] w5).alloc (.cells #[] 115)).size ?_;intro v8 R q1 q2 _ _;have k8:=bZ (a5.o.trans (aF ((aa.refl [] w5).alloc (.cells #[] 115)) (aa.refl [] _) (bD w5 115 3) q2.o));have O8:Z (R.ownsRow w5.heap.size 115 3 v8 n (cH qs)):=bZ (by have:=q1.o;rwa [Dl,Dm] at this);clear q1 q2;obtain⟨A8,c8,rfl,_⟩:=aH O8.o;obtain⟨D,p,rfl,a3,a7,B8,z,u⟩:=mw O8.o bn;have Q:Z (w1.heap.size<=D):=bZ (Dc a5.o.size a3);have L:=bt.o R D k8.o Q.o a7;replace L:=bZ L;replace B8:=bZ B8;replace z:=bZ z;replace u:=bZ u;clear O8 a3 a7;obtain⟨y0,y1,y2,y3⟩:=T.o R k8.o));refine ad (S:=(fun w':World=>(∀j,w'.cell? (U w.heap.size j)=#[I (i:Int),I id,.slice oA H oc,.slice nA C nc][j]?)/\w'.cell? (U g (off+i*3))=some (I (a:Int))/\w'.cell? (U g (off+i*3+1))=G qA ln qc/\w'.cell? (U g (off+i*3+2))=some (I M))) (n:=13) (by kernel_rfl) ?_;have d:Z (aa [] w1 R.drew):=bZ k8.o.drew;have b:=T.o R.drew d.o;have ap:Z (Blk R.drew D 115 p.toArray):=B8;have a1:Z ((∀x∈D::X,x∈X\/w.heap.size<=x)/\(∀x∈D::X,x<R.drew.heap.size)):=L;clear B8 L k8 y0 y1 y2 y3;generalize R.drew=wd at*;refine ord [0,1,2,3,4,5,6,7,8,9] ?_
      iterate 10 (refine tq b ?_;try simp only[PT,Y1,Y2,Y3])
      refine av ?_;refine J1 10 fun K O=>?_;dsimp only[Y1,Y2,Y3];go_simp;refine(CD.o _ (D::X) d.o a1.o.1 a1.o.2).mono ?_;rintro e w9 ⟨A9,n9,c9,rfl,b1,ar,a6⟩;have F:Z (aa [] w1 w9):=bZ (d.o.trans a6.o);have b:=T.o w9 F.o;have B9:Z (Blk w9 D 115 p.toArray):=bZ (ap.o.keep a6.o (by simp));refine O _ _ (.inr b) ?_;clear O K
      try simp only[PT,Y1,Y2,Y3]
      refine ord [11] ?_
      (refine tq b ?_;try simp only[PT,Y1,Y2,Y3])
      refine av ?_;refine J1 12 fun K O=>?_;dsimp only[Y1,Y2,Y3];rw[if_pos (by rfl)];refine dG 115 (.tmp 113) (.tmp 112) (by rfl) D (i*3) (by first | rfl | (rw[Dl];rfl)) 115 p [I (a:Int),.slice A9 n9 c9,I M] (by rfl) B9.o (by kernel_rfl) (by have:=z.o;simp;omega) (by simp[Value.oneCell']) ?_;intro N a2 B;have J:aa [] w1 N:=F.o.more B (fun y hy=>by simp at hy;subst hy;exact .inr Q.o);have b:=T.o N J;replace J:=bZ J;replace B:=bZ B;refine O _ _ (.inr b) ?_;clear O K
      try simp only[PT,Y1,Y2,Y3]
      refine JD ?_;have b3:eH ⟨a,l,M⟩ id s=⟨a,bS id l,M⟩:=by unfold eH;rw[if_pos (a8.o.2 n0)]
      have f:=bZ (ac.o (.returned (.tuple #[.slice (V D) n c8,I 0])) N ak.o ⟨_,_,rfl,bZ (by rw[b3];exact b7.o w9 N D p A9 n9 c9 _ _ F.o Q.o a2.o u.o z.o B.o ar.o b1)⟩ J.o);go_wp2_with fail;go_ret2;exact f.o
     have n2:((C:Int)==0)=false:=beq_false_of_ne (by omega);go_wp2_with (first | (go_at_call 48;refine bi.o.mono ?_;rintro e w5 ⟨rfl,b0⟩;obtain⟨y0,y1,y2,y3⟩:=T.o w5 (E.o.trans b0.o);have a5:Z (aa [] w1 w5):=bZ (E.o.trans b0.o)) | (at_builtin;refine ae (by rfl) (.tmp 95) (.tmp 96) 33 rfl w5.heap.size 115 i0 (.agg #[I 0,.slice none 0 0,I 0]) 3 40 Tryz.underlying33 hi.o bb.o bd.o bh.o rfl (by decide) _ 0 [] rfl (bD w5 115 3) (some (U g off)) n c (cH qs) rfl c0.o (b8.o _ (a5.o.alloc _)) (jl qs) (by unfold maxLen;omega) (by omega) ((aa.refl [] w5).alloc (.cells #[] 115)).size ?_;intro v8 R q1 q2 _ _;have k8:=bZ (a5.o.trans (aF ((aa.refl [] w5).alloc (.cells #[] 115)) (aa.refl [] _) (bD w5 115 3) q2.o));have O8:Z (R.ownsRow w5.heap.size 115 3 v8 n (cH qs)):=bZ (by have:=q1.o;rwa [Dl,Dm] at this);clear q1 q2;obtain⟨A8,c8,rfl,_⟩:=aH O8.o;obtain⟨D,p,rfl,a3,a7,B8,z,u⟩:=mw O8.o bn;have Q:Z (w1.heap.size<=D):=bZ (Dc a5.o.size a3);have L:=bt.o R D k8.o Q.o a7;replace L:=bZ L;replace B8:=bZ B8;replace z:=bZ z;replace u:=bZ u;clear O8 a3 a7;obtain⟨y0,y1,y2,y3⟩:=T.o R k8.o));refine ad (S:=(fun w':World=>(∀j,w'.cell? (U w.heap.size j)=#[I (i:Int),I id,.slice oA H oc,.slice nA C nc][j]?)/\w'.cell? (U g (off+i*3))=some (I (a:Int))/\w'.cell? (U g (off+i*3+1))=G qA ln qc/\w'.cell? (U g (off+i*3+2))=some (I M))) (n:=18) (by kernel_rfl) ?_;have d:Z (aa [] w1 R.drew):=bZ k8.o.drew;have b:=T.o R.drew d.o;have ap:Z (Blk R.drew D 115 p.toArray):=B8;have a1:Z ((∀x∈D::X,x∈X\/w.heap.size<=x)/\(∀x∈D::X,x<R.drew.heap.size)):=L;clear B8 L k8 y0 y1 y2 y3;generalize R.drew=wd at*;refine ord [0,1,2,3,4,5,6,7,8,9,10,11] ?_
     iterate 12 (refine tq b ?_;try simp only[PT,Y1,Y2,Y3])
     refine av ?_;refine J1 12 fun K O=>?_;dsimp only[Y1,Y2,Y3];go_simp;refine(CP.o _ (D::X) (by have:=c1.o;omega) (by have:=c2.o;omega) (c6.o (by omega)) d.o a1.o.1 a1.o.2).mono ?_;rintro e w9 ⟨v9,rfl,A9,n9,c9,b5,b1,ar,a6⟩;injection b5 with b5;subst b5;have F:Z (aa [] w1 w9):=bZ (d.o.trans a6.o);have b:=T.o w9 F.o;have B9:Z (Blk w9 D 115 p.toArray):=bZ (ap.o.keep a6.o (by simp));refine O _ _ (.inr b) ?_;clear O K
     try simp only[PT,Y1,Y2,Y3]
     refine ord [13,14,15,16] ?_
     iterate 4 (refine tq b ?_;try simp only[PT,Y1,Y2,Y3])
     refine av ?_;refine J1 17 fun K O=>?_;dsimp only[Y1,Y2,Y3];rw[if_pos (by rfl)];refine dG 115 (.tmp 130) (.tmp 128) (by rfl) D (i*3) (by first | rfl | (rw[Dl];rfl)) 115 p [I (a:Int),.slice A9 n9 c9,I (max M (id+1))] (by rfl) B9.o (by kernel_rfl) (by have:=z.o;simp;omega) (by simp[Value.oneCell']) ?_;intro N a2 B;have J:aa [] w1 N:=F.o.more B (fun y hy=>by simp at hy;subst hy;exact .inr Q.o);have b:=T.o N J;replace J:=bZ J;replace B:=bZ B;refine O _ _ (.inr b) ?_;clear O K
     try simp only[PT,Y1,Y2,Y3]
     refine JD ?_;have b3:eH ⟨a,l,M⟩ id s=⟨a,fu id s l,max M (id+1)⟩:=by unfold eH;rw[if_neg (fun h=>n0 (a8.o.1 h))]
     have f:=bZ (ac.o (.returned (.tuple #[.slice (V D) n c8,I 0])) N ak.o ⟨_,_,rfl,bZ (by rw[b3];exact b7.o w9 N D p A9 n9 c9 _ _ F.o Q.o a2.o u.o z.o B.o ar.o b1)⟩ J.o);go_wp2_with fail;go_ret2;exact f.o
    have f:=bZ (fun W k=>P.o W 4 (by rw[an.o,if_neg (fun h=>a0 h.1),if_pos ⟨a0,by rw[hg];intro h;injection h with h;exact b9 h⟩]) (by decide) k);rw[decide_eq_false b9] at bi;clear a0 b9 cr cl cm ck hg;go_wp2_with (go_at_call 48;refine bi.o.mono ?_;rintro e w5 ⟨rfl,b0⟩);go_ret2;exact f.o _ (E.o.trans b0.o)
end Go.Proofs.YtmlmfpikncogpaaGreat
