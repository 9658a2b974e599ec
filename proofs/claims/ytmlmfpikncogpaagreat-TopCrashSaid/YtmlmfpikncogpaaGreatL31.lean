import Derived.Test.YtmlmfpikncogpaaGreatL30
namespace Go.Proofs.YtmlmfpikncogpaaGreat
open Go.RowKit
set_option linter.unusedSimpArgs false
set_option linter.unusedVariables false
set_option maxRecDepth 100000
set_option maxHeartbeats 16000000
theorem wD {l:Tab} {k:Nat} {x:Int×List Val} (h:l[k]? =some x):cN (l.take (k+1))=cN (l.take k)++gm x:=by
 rw[Dq,h];simp[cN]
theorem As {l:Tab} (j:Nat):(cN (l.take j)).length<=(cN l).length:=by
 have h:cN l=cN (l.take j)++cN (l.drop j):=by unfold cN;rw[<-List.flatMap_append,Du]
 rw[h,CU];omega
theorem xF (w:World) (X:List Nat) (A:Option Addr) (n c:Nat) (ts:List TS) (hS:bY w X A ts) (a2:ts.length=n) (hn:n<=1000) (hb:(aN ts).length<=1000000) (M:∀t∈ts,t.l.length<=1000000/\t.cols<=1000/\(-9223372036854775808<=t.next/\t.next<9223372036854775808)/\∀x∈t.l,-9223372036854775808<=x.1/\x.1<9223372036854775808):
 Calls Tryz.prog 51 #[.slice A n c] w (bx w none (aN ts)):=by
  obtain⟨qs,hR,hC⟩:=hS;have HC:Z (∀(i:Nat),i<n->∃(g off:Nat) (q:gn) (t:TS),A=some (U g off)/\ts[i]? =some t/\(∀W,aa [] w W->W.cell? (U g (off+i*3+1))=G q.A t.l.length q.c/\W.cell? (U g (off+i*3+2))=some (I t.next))/\
   ∀k,k<t.l.length->∃(Q o2:Nat) (r:aD) (x:Int×List Val),q.A=some (U Q o2)/\t.l[k]? =some x/\x.2.length<=1000/\(∀v∈x.2,v.ok)/\∀W,aa [] w W->W.cell? (U Q (o2+k*2))=some (I x.1)/\W.cell? (U Q (o2+k*2+1))=G r.A x.2.length r.c/\ah W X r.A x.2):=bZ (fun i hi=>by
   obtain⟨t,P⟩:∃t,ts[i]? =some t:=⟨_,CT (by omega)⟩
   obtain⟨q,hq,q1,q2,q3,rs,ap,an⟩:=hR.at P
   obtain⟨g,off,hA,_,x0,x1,x2⟩:=lu hC hq
   refine⟨g,off,q,t,hA,P,fun W k=>⟨by rw[<-q2];exact k.cellEq x1 (by simp),by rw[<-q3];exact k.cellEq x2 (by simp)⟩,fun k hk=>?_⟩
   obtain⟨x,hx⟩:∃x,t.l[k]? =some x:=⟨_,CT hk⟩
   obtain⟨r,hr,r1,r2,r3,r4,r5⟩:=ap.at hx
   obtain⟨Q,o2,ak,_,y0,y1⟩:=gF an hr
   refine⟨Q,o2,r,x,ak,hx,by rw[r4];exact(M t (CW P)).2.1,r5,fun W k=>⟨by rw[<-r1];exact k.cellEq y0 (by simp),by rw[<-r2];exact k.cellEq y1 (by simp),r3.shift k (by simp) (fun x hx=>.inl hx)⟩⟩)
  have a7:Z (∀i t,ts[i]? =some t->∀k,(aN (ts.take i)).length+16+(cN (t.l.take k)).length<=1000000):=bZ (fun i t P k=>by
   have h1:=qa (ts:=ts) (i+1);rw[jn P,CU] at h1;have h2:(fP t).length=16+(cN t.l).length:=by unfold fP;rw[CU,CU,Cod.ag,Cod.ag];omega
   have h3:=As (l:=t.l) k;omega)
  have a1:=bZ M;have a9:=bZ (bC.nil w);replace a2:=bZ a2;clear hR hC hb M;go_enter Tryz.func51,Tryz.ntmps51;go_wp2_with fail;go_loopw [3,4] (fun ov a3 wr=>∃(i:Nat) (B:Option Addr) (m d:Nat),i<=n/\a3=I (i:Int)/\ov=.slice B m d/\Z (bC w none wr B m d (aN (ts.take i)))) (fun _ a3 _=>n - (intOf a3).toNat)
  case atStart=>exact⟨0,none,0,0,C3 _,rfl,rfl,a9⟩
  obtain⟨i,B,m,d,hi,rfl,rfl,hB⟩:=hrel;clear a9;by_cases b5:i<n
  ·have b9:(i:Int)<(n:Int):=by omega
   obtain⟨g,off,q,t,rfl,P,f,a⟩:=HC.o i b5;obtain⟨b1,b2,b3,b4⟩:=a1.o t (CW P);have y:=a7.o i t P;have ac:Z (aN (ts.take (i+1))=aN (ts.take i)++fP t):=bZ (jn P);have H:=hB.o.len;obtain⟨E,hE⟩:∃E,aN (ts.take i)=E:=⟨_,rfl⟩;rw[hE] at y ac hB H;obtain⟨tc,l,tn⟩:=t;dsimp only at f a b1 b2 b3 b4 y;obtain⟨D,N⟩:∃D,l.length=D:=⟨_,rfl⟩;rw[N] at f a b1;obtain⟨bd,qA,qn,qc,qx⟩:=q;dsimp only at f a;have wi:IntKind.i64.wrap ((i:Int)+1)=(i:Int)+1:=C0 _ (by omega);have ba:m<=1000000:=by have:=y 0;omega
   replace f:=bZ f;replace a:=bZ a;replace b3:=bZ b3;replace b4:=bZ b4;replace y:=bZ y;replace hE:=bZ hE;replace N:=bZ N;replace H:=bZ H;clear P b2;go_wp2_with fail;refine ad (S:=(fun w':World=>w'.cell? (U g (off+i*3+1))=G qA D qc/\w'.cell? (U g (off+i*3+2))=some (I tn))) (n:=15) (by kernel_rfl) ?_;have kd:Z (aa [] w wr.drew):=bZ hB.o.kp.drew;have p:Z (bC w none wr.drew B m d E):=bZ (hB.o.keep (aa.refl [] wr).drew);clear hB;have u:=f.o wr.drew kd.o;generalize wr.drew=wd at*;refine ord [0,1,2,3,4,5,7,8,9,10,11,12] ?_
   iterate 12 (refine tq u ?_;try simp only[PT,Y1,Y2,Y3])
   refine av ?_;refine J1 6 fun K J=>?_;dsimp only[Y1,Y2,Y3];go_simp;refine(d9 wd B m d E tn p.o.own (by omega) b3.o).mono ?_;rintro e w2 ⟨A2,n2,c2,rfl,C⟩;have L:=C.o.len;rw[CU,Cod.ag,H.o] at L;subst L;have b:=bZ (p.o.then_ C.o);clear p C;have u:=f.o w2 b.o.kp;refine J _ _ (.inr u) ?_;clear J K kd
   try simp only[PT,Y1,Y2,Y3]
   refine J1 13 fun K J=>?_;dsimp only[Y1,Y2,Y3];go_simp;refine(d9 w2 A2 (m+8) c2 (E++Cod.num tn) (D:Int) b.o.own (by omega) (by omega)).mono ?_;rintro e w3 ⟨A3,n3,c3,rfl,F⟩;have a8:=F.o.len;rw[CU,CU,Cod.ag,Cod.ag,H.o] at a8;subst a8;have j:=bZ (b.o.then_ F.o);clear b F;have u:=f.o w3 j.o.kp;refine J _ _ (.inr u) ?_;clear J K
   try simp only[PT,Y1,Y2,Y3]
   refine ord [14] ?_
   (refine tq u ?_;try simp only[PT,Y1,Y2,Y3])
   refine av ?_;refine JD ?_;have a0:Z (bC w none w3 A3 (m+8+8) c3 (E++(Cod.num tn++(Cod.num (D:Int)++cN (l.take 0))))):=bZ (by have:=j.o;rw[Dd] at this;simpa [cN] using this);clear j u;go_wp2_with fail;go_loopw [3,5] (fun ov kv wk=>∃(k:Nat) (B':Option Addr) (Y d':Nat),k<=D/\kv=I (k:Int)/\ov=.slice B' Y d'/\Z (bC w none wk B' Y d' (E++(Cod.num tn++(Cod.num (D:Int)++cN (l.take k)))))) (fun _ kv _=>D - (intOf kv).toNat)
   case atStart=>exact⟨0,A3,m+8+8,c3,C3 _,rfl,rfl,a0⟩
   obtain⟨k,B',Y,d',hk,rfl,rfl,z⟩:=hrel;obtain⟨wo,b6⟩:∃x,x=wr:=⟨_,rfl⟩;subst b6;clear a0;obtain⟨z1,z2⟩:=f.o _ z.o.kp;by_cases b0:k<D
   ·have b8:(k:Int)<(D:Int):=by omega
    obtain⟨Q,o2,r,x,rfl,hx,x5,x6,h⟩:=a.o k b0;obtain⟨a4,a5⟩:=b4.o x (CW hx);have O:=z.o.len;have ar:=y.o k;have a6:=y.o (k+1);have b7:Z (cN (l.take (k+1))=cN (l.take k)++gm x):=bZ (wD hx);rw[CU,CU,CU,Cod.ag,Cod.ag] at O;have bh:IntKind.i64.wrap ((k:Int)+1)=(k:Int)+1:=C0 _ (by omega);obtain⟨E2,R⟩:∃E2,E++(Cod.num tn++(Cod.num (D:Int)++cN (l.take k)))=E2:=⟨_,rfl⟩;rw[R] at z;have bb:Y<=1000000:=by have:=H.o;omega
    obtain⟨x1,x2⟩:=x;dsimp only at x5 x6 h a4 a5;obtain⟨xn,T⟩:∃xn,x2.length=xn:=⟨_,rfl⟩;rw[T] at x5 h;replace h:=bZ h;replace x6:=bZ x6;replace R:=bZ R;replace O:=bZ O;replace T:=bZ T;clear hx ar a6;go_wp2_with fail;refine ad (S:=(fun w':World=>w'.cell? (U g (off+i*3+1))=G (some (U Q o2)) D qc/\w'.cell? (U Q (o2+k*2))=some (I x1)/\w'.cell? (U Q (o2+k*2+1))=G r.A xn r.c)) (n:=22) (by kernel_rfl) ?_;have kd:Z (aa [] w wo.drew):=bZ z.o.kp.drew;have p:Z (bC w none wo.drew B' Y d' E2):=bZ (z.o.keep (aa.refl [] wo).drew);clear z;have u:=EG (f.o wo.drew kd.o).1 (EG (h.o wo.drew kd.o).1 (h.o wo.drew kd.o).2.1);generalize wo.drew=wd at*;refine ord [0,1,2,3,4,5,6,7,8,9,11,12,13,14,15,16,17,18,19] ?_
    iterate 19 (refine tq u ?_;try simp only[PT,Y1,Y2,Y3])
    refine av ?_;refine J1 10 fun K J=>?_;dsimp only[Y1,Y2,Y3];go_simp;refine(d9 wd B' Y d' E2 x1 p.o.own (by omega) ⟨a4,a5⟩).mono ?_;rintro e w2 ⟨A2,n2,c2,rfl,C⟩;have L:=C.o.len;rw[CU,Cod.ag,p.o.len] at L;subst L;have b:=bZ (p.o.then_ C.o);clear p C;have u:=EG (f.o w2 b.o.kp).1 (EG (h.o w2 b.o.kp).1 (h.o w2 b.o.kp).2.1);refine J _ _ (.inr u) ?_;clear J K kd
    try simp only[PT,Y1,Y2,Y3]
    refine J1 20 fun K J=>?_;dsimp only[Y1,Y2,Y3];go_simp;refine(sJ w2 X A2 (Y+8) c2 (E2++Cod.num x1) r.A x2 xn r.c T.o (h.o w2 b.o.kp).2.2 (by omega) x6.o b.o.own (by omega)).mono ?_;rintro e w3 ⟨A3,n3,c3,rfl,F⟩;have j:=bZ (b.o.then_ F.o);clear b F;have u:=EG (f.o w3 j.o.kp).1 (EG (h.o w3 j.o.kp).1 (h.o w3 j.o.kp).2.1);refine J _ _ (.inr u) ?_;clear J K
    try simp only[PT,Y1,Y2,Y3]
    refine ord [21] ?_
    (refine tq u ?_;try simp only[PT,Y1,Y2,Y3])
    refine av ?_;refine JD ?_;clear u;have s:Z (bC w none w3 A3 n3 c3 (E++(Cod.num tn++(Cod.num (D:Int)++cN (l.take (k+1)))))):=bZ (by
     have:=j.o;rw[<-R.o,Dd] at this;rw[b7.o];unfold gm;simpa [Dd] using this)
    clear j;go_wp2_with fail;go_roundw
    case rel=>exact⟨k+1,A3,n3,c3,by omega,by go_num,rfl,s⟩
    case measure=>simp[intOf];omega
   obtain rfl:k=D:=by omega
   have s:Z (bC w none wo B' Y d' (aN (ts.take (i+1)))):=bZ (by rw[ac.o];have:=z.o;rw[C6 (by rw[N.o];exact C9 _)] at this;unfold fP;dsimp only;rw[N.o];exact this);go_wp2_with fail;go_roundw
   case rel=>exact⟨i+1,B',Y,d',by omega,by go_num,rfl,s⟩
   case measure=>simp[intOf];omega
  obtain rfl:i=n:=by omega
  have s:Z (bx w none (aN ts) (.returned (.slice B m d)) wr):=bZ ⟨B,m,d,rfl,bZ (by have:=hB.o;rwa [C6 (by rw[a2.o];exact C9 _)] at this)⟩;go_wp2_with fail;go_ret;exact s.o
theorem Bu (w:World) (X:List Nat) (A:Option Addr) (n c:Nat) (l:List Chg) (hl:l.length=n) (hn:n<=40) (L:∀c∈l,c.ok)
 (hA:∀i x,l[i]? =some x->∃g off p co j F,A=some (U g off)/\w.cell? (U g (off+i*4))=some (I x.t)/\w.cell? (U g (off+i*4+1))=some (I x.id)/\
 w.cell? (U g (off+i*4+2))=G p x.old.length co/\w.cell? (U g (off+i*4+3))=G j x.new.length F/\ah w X p x.old/\ah w X j x.new):Calls Tryz.prog 69 #[.slice A n c] w (bx w none (cM l)):=by
  have HA:Z (∀i x,l[i]? =some x->∃g off p co j F,A=some (U g off)/\(∀W,aa [] w W->W.cell? (U g (off+i*4))=some (I x.t)/\W.cell? (U g (off+i*4+1))=some (I x.id)/\
   W.cell? (U g (off+i*4+2))=G p x.old.length co/\W.cell? (U g (off+i*4+3))=G j x.new.length F)/\∀W,aa [] w W->ah W X p x.old/\ah W X j x.new):=bZ (fun i x hi=>by
   obtain⟨g,off,p,co,j,F,h0,h1,h2,h3,h4,h5,h6⟩:=hA i x hi
   exact⟨g,off,p,co,j,F,h0,fun W k=>⟨k.cellEq h1 (by simp),k.cellEq h2 (by simp),k.cellEq h3 (by simp),k.cellEq h4 (by simp)⟩,fun W k=>⟨h5.shift k (by simp) (fun x N=>.inl N),h6.shift k (by simp) (fun x N=>.inl N)⟩⟩)
  have H0:=bZ (d9 w none 0 0 [] (n:Int) (bQ w 0 5 1) (by omega) (by omega));replace hl:=bZ hl;replace L:=bZ L;have a7:=bZ (bC.nil w);clear hA;go_enter Tryz.func69,Tryz.ntmps69;go_wp2_with (go_at_call 86;refine H0.o.mono ?_;rintro e w1 ⟨A1,n1,c1,rfl,R⟩;have a2:=R.o.len;rw[Dm,Cod.ag] at a2;subst a2);have M:Z (bC w none w1 A1 8 c1 (Cod.num (n:Int)++cI (l.take 0))):=bZ (by have:=a7.o.then_ R.o;rw[Dm] at this;rw[EY,show cI []=[] from rfl,DA];exact this);clear a7 R H0;go_loopw [3,4] (fun ov T wr=>∃(i:Nat) (B:Option Addr) (m d:Nat),i<=n/\T=I (i:Int)/\ov=.slice B m d/\Z (bC w none wr B m d (Cod.num (n:Int)++cI (l.take i)))) (fun _ T _=>n - (intOf T).toNat)
  case atStart=>exact⟨0,A1,8,c1,C3 _,rfl,rfl,M⟩
  obtain⟨i,B,m,d,hi,rfl,rfl,O⟩:=hrel;clear M;by_cases an:i<n
  ·have ar:(i:Int)<(n:Int):=by omega
   obtain⟨x,N⟩:∃x,l[i]? =some x:=⟨_,CT (by rw[hl.o];exact an)⟩;obtain⟨g,off,p,co,j,F,rfl,a,b⟩:=HA.o i x N;obtain⟨o1,o2,o3,o4,o5,o6⟩:=L.o x (CW N);have a6:=O.o.len;have ak:(cI (l.take i)).length<=40000*i:=by have:=fa (l.take i) (fun c hc=>L.o c (DD hc));rw[CY] at this;have:=Nat.min_le_left i l.length;omega
   rw[CU,Cod.ag] at a6;have b0:m<=2000000:=by omega
   have ap:Z (cI (l.take (i+1))=cI (l.take i)++jF x):=bZ (nT N);have D:=gL o5;obtain⟨E,hE⟩:∃E,Cod.num (n:Int)++cI (l.take i)=E:=⟨_,rfl⟩;rw[hE] at O;have wi:IntKind.i64.wrap ((i:Int)+1)=(i:Int)+1:=C0 _ (by omega);obtain⟨tb,id,old,Y⟩:=x;dsimp only at a b o1 o2 o3 o4 o5 o6 D;obtain⟨on,C⟩:∃on,old.length=on:=⟨_,rfl⟩;obtain⟨nn,z⟩:∃nn,Y.length=nn:=⟨_,rfl⟩;rw[C] at a o3 D;rw[z] at a o4;have a9:Z (∀W,aa [] w W->Calls Tryz.prog 100 #[.slice p on co] W fun e w'=>e=.returned (.bool true)/\Z (aa [] W w')):=bZ (fun W k=>by have:=jA W X p old on co C (b W k).1 (by omega) (fun v hv=>dI (o5 v hv));rwa [cE.2 o5] at this);have ac:Z (∀W,aa [] w W->Calls Tryz.prog 100 #[.slice j nn F] W fun e w'=>e=.returned (.bool true)/\Z (aa [] W w')):=bZ (fun W k=>by have:=jA W X j Y nn F z (b W k).2 (by omega) (fun v hv=>dI (o6 v hv));rwa [cE.2 o6] at this);obtain⟨y0,y1,y2,y3⟩:=a wr O.o.kp;replace a:=bZ a;replace b:=bZ b;replace hE:=bZ hE;replace o5:=bZ o5;replace o6:=bZ o6;replace C:=bZ C;replace z:=bZ z;replace D:=bZ D;clear N a6 ak;have kB:Z (aa [] w wr):=bZ O.o.kp;go_wp2_with (first
    | (go_at_call 100;(with_reducible refine(a9.o _ kB.o).mono ?_);rintro e w2 ⟨rfl,a0⟩;have H:=bZ (O.o.keep a0.o);have a8:Z (aa [] w w2):=bZ H.o.kp;obtain⟨z0,z1,z2,z3⟩:=a.o w2 H.o.kp)
    | (go_at_call 100;(with_reducible refine(ac.o _ a8.o).mono ?_);rintro e w3 ⟨rfl,a1⟩;have P:=bZ (H.o.keep a1.o)))
   clear y0 y1 y2 y3 z0 z1 z2 z3 O a0 H a1 kB a8;refine ad (S:=(fun w':World=>w'.cell? (U g (off+i*4))=some (I tb)/\w'.cell? (U g (off+i*4+1))=some (I id)/\w'.cell? (U g (off+i*4+2))=G p on co/\w'.cell? (U g (off+i*4+3))=G j nn F)) (n:=26) (by kernel_rfl) ?_;have kd:Z (aa [] w w3.drew):=bZ P.o.kp.drew;have J:Z (bC w none w3.drew B m d E):=bZ (P.o.keep (aa.refl [] w3).drew);clear P;have q:=a.o w3.drew kd.o;generalize w3.drew=wd at*;refine ord [0,1,2,3,4,5,7,8,9,10,11,13,14,15,16,17,19,20,21,22,23] ?_
   iterate 21 (refine tq q ?_;try simp only[PT,Y1,Y2,Y3])
   refine av ?_;refine J1 6 fun K u=>?_;dsimp only[Y1,Y2,Y3];go_simp;refine(d9 wd B m d E tb J.o.own (by omega) o1).mono ?_;rintro e w4 ⟨B4,m4,d4,rfl,f⟩;have a3:=f.o.len;rw[CU,Cod.ag,J.o.len] at a3;subst a3;have r:=bZ (J.o.then_ f.o);clear J f;have q:=a.o w4 r.o.kp;refine u _ _ (.inr q) ?_;clear u K
   try simp only[PT,Y1,Y2,Y3]
   refine J1 12 fun K u=>?_;dsimp only[Y1,Y2,Y3];go_simp;refine(d9 w4 B4 (m+8) d4 (E++Cod.num tb) id r.o.own (by omega) o2).mono ?_;rintro e w5 ⟨B5,m5,d5,rfl,f⟩;have a4:=f.o.len;rw[CU,Cod.ag,r.o.len] at a4;subst a4;have h:=bZ (r.o.then_ f.o);clear r f;have q:=a.o w5 h.o.kp;refine u _ _ (.inr q) ?_;clear u K
   try simp only[PT,Y1,Y2,Y3]
   refine J1 18 fun K u=>?_;dsimp only[Y1,Y2,Y3];go_simp;refine(sJ w5 X B5 (m+8+8) d5 (E++Cod.num tb++Cod.num id) p old on co C.o (b.o w5 h.o.kp).1 (by omega) o5.o h.o.own (by omega)).mono ?_;rintro e w6 ⟨B6,m6,d6,rfl,f⟩;have a5:=f.o.len;rw[CU,h.o.len] at a5;have b1:m6<=3000000:=by have:=D.o;omega
   clear a5;have s:=bZ (h.o.then_ f.o);clear h f;have q:=a.o w6 s.o.kp;refine u _ _ (.inr q) ?_;clear u K
   try simp only[PT,Y1,Y2,Y3]
   refine J1 24 fun K u=>?_;dsimp only[Y1,Y2,Y3];go_simp;refine(sJ w6 X B6 m6 d6 (E++Cod.num tb++Cod.num id++dX old) j Y nn F z.o (b.o w6 s.o.kp).2 (by omega) o6.o s.o.own (by omega)).mono ?_;rintro e w7 ⟨B7,m7,d7,rfl,f⟩;skip;have Q:=bZ (s.o.then_ f.o);clear s f;have q:=a.o w7 Q.o.kp;refine u _ _ (.inr q) ?_;clear u K
   try simp only[PT,Y1,Y2,Y3]
   refine ord [25] ?_
   (refine tq q ?_;try simp only[PT,Y1,Y2,Y3])
   refine av ?_;refine JD ?_;have y:Z (bC w none w7 B7 m7 d7 (Cod.num (n:Int)++cI (l.take (i+1)))):=bZ (by
    have:=Q.o;rw[<-hE.o] at this;rw[ap.o];unfold jF;rw[Dd,Dd,Dd,Dd] at this;exact this)
   clear Q q;go_wp2_with fail;go_roundw
   case rel=>exact⟨i+1,B7,m7,d7,by omega,by go_num,rfl,y⟩
   case measure=>simp[intOf];omega
  obtain rfl:i=n:=by omega
  have y:Z (bx w none (cM l) (.returned (.slice B m d)) wr):=bZ ⟨B,m,d,rfl,bZ (by have:=O.o;rw[C6 (by rw[hl.o];exact C9 _)] at this;unfold cM;rw[hl.o];exact this)⟩;go_wp2_with fail;go_ret;exact y.o
end Go.Proofs.YtmlmfpikncogpaaGreat
