import Derived.Deep.CutBlock
import Derived.Test.YtldmkbhgdbafhaaGreatL11
namespace Go.Proofs.YtldmkbhgdbafhaaGreat
open Go.RowKit
set_option linter.unusedSimpArgs false
set_option linter.unusedVariables false
set_option maxRecDepth 100000
set_option maxHeartbeats 64000000
section
theorem nT (w:World) (t:TypeId) (c1 c2 c3 c4:Array Value):∃W,W=(((w.alloc (.cells c1 t)).alloc (.cells c2 t)).alloc (.cells c3 t)).alloc (.cells c4 t)/\Blk W w.heap.size t c1/\Blk W (w.heap.size+1) t c2/\Blk W (w.heap.size+1+1) t c3/\Blk W (w.heap.size+1+1+1) t c4/\ad [] w W/\W.heap.size=w.heap.size+4:=by
 obtain⟨d,f,g⟩:=aX w t c1 c2;obtain⟨b,c,a⟩:=aX ((w.alloc (.cells c1 t)).alloc (.cells c2 t)) t c3 c4;have e:((w.alloc (.cells c1 t)).alloc (.cells c2 t)).heap.size=w.heap.size+1+1:=by simp
 rw[e] at b c;exact⟨_,rfl,d.keep a (by simp),f.keep a (by simp),b,c,g.trans a,by simp⟩
theorem dA (w:World) (o:Obj) (t:TypeId) (m:Nat) (cs:List Value):cH ((w.alloc o).alloc (.cells cs.toArray t)) (V (w.heap.size+1)) m cs:=by
 have h:=Blk.new (w.alloc o) t cs.toArray;rw[show (w.alloc o).heap.size=w.heap.size+1 by simp] at h;exact .inr ⟨_,0,rfl,fun j u a=>by rw[h.cell,Dl,DW];exact a⟩
theorem gZ (p:Pt) (a:Option Addr) (c b:Nat):∀u∈ptV p a c b,u.oneCell'=true:=by simp[ptV,Value.oneCell']
structure kL (xs ys:List Pt) (i k:Nat) (p:Pt) (i' k':Nat):Prop where
 eq:aJ (xs.drop i) (ys.drop k)=(if p.n=0 then [] else [p])++aJ (xs.drop i') (ys.drop k')
 le:i<=i'/\k<=k'/\i'<=xs.length/\k'<=ys.length/\i+k<i'+k'
theorem kL.a {xs ys:List Pt} {i k:Nat} {x:Pt} (c:xs[i]? =some x) (e:k<=ys.length) (f:x.n≠0) (h:∀y,ys[k]? =some y->kc x y<0):kL xs ys i k x (i+1) k:=by
 refine⟨?_,by omega,by omega,by have:=(CV.1 c).1;omega,e,by omega⟩;rw[if_neg f,cW c];by_cases b:k<ys.length
 ·obtain⟨y,d⟩:=aI b;rw[cW d,aJ,if_pos (h y d)];rfl
 rw[DB (l:=ys) (by omega),oK,oK];rfl
theorem kL.b {xs ys:List Pt} {i k:Nat} {y:Pt} (d:ys[k]? =some y) (e:i<=xs.length) (f:y.n≠0) (h:∀x,xs[i]? =some x->0<kc x y):kL xs ys i k y i (k+1):=by
 refine⟨?_,by omega,by omega,e,by have:=(CV.1 d).1;omega,by omega⟩;rw[if_neg f,cW d];by_cases a:i<xs.length
 ·obtain⟨x,c⟩:=aI a;have:=h x c;rw[cW c,aJ,if_neg (by omega),if_pos this];rfl
 rw[DB (l:=xs) (by omega),aJ,aJ];rfl
theorem kL.both {xs ys:List Pt} {i k:Nat} {x y:Pt} (b:xs[i]? =some x) (c:ys[k]? =some y) (h:kc x y=0):kL xs ys i k (y.wn (x.n+y.n)) (i+1) (k+1):=by
 refine⟨?_,by omega,by omega,by have:=(CV.1 b).1;omega,by have:=(CV.1 c).1;omega,by omega⟩;rw[cW b,cW c,aJ,if_neg (by omega),if_neg (by omega)];show _=(if x.n+y.n=0 then [] else [y.wn (x.n+y.n)])++_;by_cases a:x.n+y.n=0
 ·rw[if_pos a,if_pos a];rfl
 rw[if_neg a,if_neg a];rfl
theorem eL {N:Nat}:∀ {xs ys:List Pt},(∀p∈xs,p.n.natAbs<=N)->(∀p∈ys,p.n.natAbs<=N)->∀p∈aJ xs ys,p.n.natAbs<=N+N
 | [],ys,_,h,p,a=>by rw[aJ] at a;have:=h p a;omega
 | x::xs,[],h,_,p,a=>by rw[aJ] at a;have:=h p a;omega
 | x::xs,y::ys,hx,hy,p,a=>by
   have b:∀p∈xs,p.n.natAbs<=N:=fun p a=>hx p (by simp[a]);have c:∀p∈ys,p.n.natAbs<=N:=fun p a=>hy p (by simp[a]);have d:=hx x (by simp);have e:=hy y (by simp);rw[aJ] at a
   split at a
   ·rcases Db.1 a with rfl | a
    ·omega
    exact eL b hy p a
   split at a
   ·rcases Db.1 a with rfl | a
    ·omega
    exact eL hx c p a
   split at a
   ·exact eL b c p a
   rcases Db.1 a with rfl | a
   ·show (x.n+y.n).natAbs<=_;omega
   exact eL b c p a
termination_by xs ys=>xs.length+ys.length
structure gJ (w W0:World) (C:Nat->Prop) (a b:T) (n m:Nat) (A B:Option Addr) (c d:Nat) (ca cb:Int) (ga gb gr gS:Nat) (i k:Nat) (L:List Pt) (vA:Option Addr) (vc:Nat) (cs:List Value) (wr:World):Prop where
 add:L++aJ (a.pts.drop i) (b.pts.drop k)=aJ a.pts b.pts
 S:Blk wr gS 38 #[.int .i64 (ca+cb),.slice vA L.length vc]
 own:wr.ownsRow W0.heap.size 221 5 (.slice vA L.length vc) L.length cs
 is_:Is wr (fun g=>(C g/\g<w.heap.size)/\(Value.slice vA L.length vc).ownBlock≠some g) (cat Pt.tr L) cs
 len:L.length<=i+k
 ba:Blk wr ga 38 #[.int .i64 ca,.slice A n c]
 bb:Blk wr gb 38 #[.int .i64 cb,.slice B m d]
 br:Blk wr gr 38 #[.int .i64 0,.slice none 0 0]
 kp:ad [] w wr
 lo:W0.heap.size<=wr.heap.size
 gs:w.heap.size<=ga/\ga<gb/\gb<gr/\gr<gS/\gS<W0.heap.size
theorem eE {w j:World} {g:Nat} {t:TypeId} {cs:Array Value} {v:Value} (h:Blk w g t cs) (l:w.grownBy j v.ownBlock) (e:v.ownBlock≠some g):Blk j g t cs:=
 h.keep (ad.grown (X:=v.ownBlock.toList) l (fun k o=>by rw[o];simp)) (fun f=>by rw[D8] at f;exact e f)
section
variable {w W0:World} {C:Nat->Prop} {a b:T} {n m:Nat} {A B:Option Addr} {c d:Nat} {ca cb:Int} {ga gb gr gS:Nat} {i k:Nat} {L:List Pt} {vA:Option Addr} {vc:Nat} {cs:List Value} {wr W wq:World}
theorem gJ.keep (h:gJ w W0 C a b n m A B c d ca cb ga gb gr gS i k L vA vc cs wr) (e:ad [] wr W):gJ w W0 C a b n m A B c d ca cb ga gb gr gS i k L vA vc cs W:=
 ⟨h.add,h.S.keep e (by simp),aW h.own e,h.is_.keep e (by simp),h.len,h.ba.keep e (by simp),h.bb.keep e (by simp),h.br.keep e (by simp),h.kp.trans e,Dc h.lo e.size,h.gs⟩
theorem gJ.skip (h:gJ w W0 C a b n m A B c d ca cb ga gb gr gS i k L vA vc cs wr) {i' k':Nat} (f:L++aJ (a.pts.drop i') (b.pts.drop k')=aJ a.pts b.pts) (e:i+k<=i'+k'):gJ w W0 C a b n m A B c d ca cb ga gb gr gS i' k' L vA vc cs wr:=
 ⟨f,h.S,h.own,h.is_,Dc h.len e,h.ba,h.bb,h.br,h.kp,h.lo,h.gs⟩
theorem gJ.ne (h:gJ w W0 C a b n m A B c d ca cb ga gb gr gS i k L vA vc cs wr) {g:Nat} (f:g<W0.heap.size):(Value.slice vA L.length vc).ownBlock≠some g:=fun e=>by have:=(cz h.own e).1;omega
theorem gJ.grown (h:gJ w W0 C a b n m A B c d ca cb ga gb gr gS i k L vA vc cs wr) (e:wr.grownBy wq (Value.slice vA L.length vc).ownBlock):Blk wq gS 38 #[.int .i64 (ca+cb),.slice vA L.length vc]:=
 eE h.S e (h.ne h.gs.2.2.2.2)
theorem gJ.push (h:gJ w W0 C a b n m A B c d ca cb ga gb gr gS i k L vA vc cs wr) {i' k':Nat} {p:Pt} {u:Option Addr} {s r:Nat} {f:Option Addr} {j:Nat} (J:(L++[p])++aJ (a.pts.drop i') (b.pts.drop k')=aJ a.pts b.pts) (T:i+k+1<=i'+k')
 (K:bP w C p u s) (t:s<=r/\r<=maxLen) (E:wq.ownsRow W0.heap.size 221 5 (.slice f (L.length+1) j) (L.length+1) (cs++ptV p u s r)) (o:wr.grownBy wq (Value.slice vA L.length vc).ownBlock)
 (P:(Value.slice f (L.length+1) j).ownBlock=(Value.slice vA L.length vc).ownBlock\/(Value.slice f (L.length+1) j).ownBlock=some wr.heap.size):
 gJ w W0 C a b n m A B c d ca cb ga gb gr gS i' k' (L++[p]) f j (cs++ptV p u s r) (wq.setCell (U gS 1) (.slice f (L.length+1) j)):=by
  have F:=h.gs;have e:(L++[p]).length=L.length+1:=by simp
  have q:ad [gS] wq (wq.setCell (U gS 1) (.slice f (L.length+1) j)):=(ad.refl [gS] wq).setCell (.inl (by simp)) _;have z:∀g,(Value.slice f (L.length+1) j).ownBlock=some g->W0.heap.size<=g:=fun g l=>(cz E l).1;have M:Is wr (fun g=>(C g/\g<w.heap.size)/\(Value.slice vA L.length vc).ownBlock≠some g) p.tr (ptV p u s r):=
   bL.2 ⟨u,s,r,rfl,t.1,t.2,(K.mono (D:=fun g=>(C g/\g<w.heap.size)/\(Value.slice vA L.length vc).ownBlock≠some g) (fun g l v=>⟨⟨v,l⟩,h.ne (by omega)⟩)).keep h.kp (by simp)⟩
  have x:=jD h.is_ M o P;have O:ad [] w wq:=rJ h.kp o (fun g l=>by have:=(cz h.own l).1;omega);refine⟨J,?_,?_,?_,by rw[e];have:=h.len;omega,?_,?_,?_,(O.setCell (.inr (by show w.heap.size<=gS;omega)) _),?_,F⟩
  ·rw[e];exact(h.grown o).set_ 1 _
  ·rw[e];exact dE E q (fun g l H=>by have:=z g l;rw[CZ.1 H] at this;omega)
  ·rw[e,eX,show cat Pt.tr [p]=p.tr by simp[cat,Tr.app_nil]];refine x.keep q (fun y N v=>?_);rw[CZ.1 N] at v;have:=v.1.2;omega
  ·exact(eE h.ba o (h.ne (by omega))).keep q (by simp;omega)
  ·exact(eE h.bb o (h.ne (by omega))).keep q (by simp;omega)
  ·exact(eE h.br o (h.ne (by omega))).keep q (by simp;omega)
  have Q:=o.size;have R:=h.lo;have S:=q.size;omega
end
theorem mI (C:Nat->Prop) (a b:T) (w:World) (A:Option Addr) (c:Nat) (B:Option Addr) (d:Nat) (an:Nm a) (ao:Nm b) (bz:a.pts.length+b.pts.length<=1000000) (bm:a.wd<=1000000) (bn:b.wd<=1000000) (hA:TAt w C A a) (hB:TAt w C B b):
 Calls Tryz.prog 156 #[tmV a A c,tmV b B d] w (TeP w (fun g=>w.heap.size<=g) (al (aQ a b))):=by
  obtain⟨n,hn⟩:∃n,n=a.pts.length:=⟨_,rfl⟩;obtain⟨m,hm⟩:∃m,m=b.pts.length:=⟨_,rfl⟩;obtain⟨ca,b6⟩:∃k,k=a.con:=⟨_,rfl⟩;obtain⟨cb,b7⟩:∃k,k=b.con:=⟨_,rfl⟩;rw[<-hn,<-hm] at bz;unfold tmV;rw[<-hn,<-hm,<-b6,<-b7];have ds:ca.natAbs<=1099511627776:=by rw[b6];exact an.2.1.1
  have dv:cb.natAbs<=1099511627776:=by rw[b7];exact ao.2.1.1
  have e9:IntKind.i64.wrap (ca+cb)=ca+cb:=C0 _ (by omega);have av:=bZ hn;have am:=bZ hm;have bs:=bZ b6;have bt:=bZ b7;have a4:=bZ (T.ok_iff.1 an.1);have a5:=bZ (T.ok_iff.1 ao.1);have d4:=bZ an.2.1.2.1;have bd:=bZ ao.2.1.2.1;replace an:=bZ an;replace ao:=bZ ao;have d5:=bZ (T.wd_iff.1 bm).2;have d6:=bZ (T.wd_iff.1 bn).2;replace bm:=bZ bm;replace bn:=bZ bn;replace hA:=bZ hA;replace hB:=bZ hB;clear hn hm b6 b7 ds dv;obtain⟨W0,ct,t1,t2,t3,t4,k0,d3⟩:=nT w 38 #[.int .i64 ca,.slice A n c] #[.int .i64 cb,.slice B m d] #[.int .i64 0,.slice none 0 0] #[.int .i64 (ca+cb),.slice none 0 0];obtain⟨ga,c9⟩:∃g,g=w.heap.size:=⟨_,rfl⟩;obtain⟨gb,cc⟩:∃g,g=w.heap.size+1:=⟨_,rfl⟩;obtain⟨gr,cd⟩:∃g,g=w.heap.size+1+1:=⟨_,rfl⟩;obtain⟨gS,c8⟩:∃g,g=w.heap.size+1+1+1:=⟨_,rfl⟩;have b8:Z (w.heap.size<=ga/\ga<gb/\gb<gr/\gr<gS/\gS<W0.heap.size):=bZ (by omega);rw[<-c8] at t4;rw[<-cd] at t3;rw[<-cc] at t2;rw[<-c9] at t1;replace t1:=bZ t1;replace t2:=bZ t2;replace t3:=bZ t3;replace t4:=bZ t4;replace k0:=bZ k0;replace d3:=bZ d3;have cq:Z (gJ w W0 C a b n m A B c d ca cb ga gb gr gS 0 0 [] none 0 [] W0):=bZ ⟨by simp,t4.o,mg _ _ _ _,rfl,by simp,t1.o,t2.o,t3.o,k0.o,C9 _,b8.o⟩;go_enter Tryz.func156,Tryz.ntmps156;go_wp2_with fail;rw[<-ct,<-c8,<-cd,<-cc,<-c9];clear ct c9 cc cd c8 t1 t2 t3 t4;obtain⟨i0,ak,ap,aq,ar⟩:=j9 dO;replace ak:=bZ ak;replace ap:=bZ ap;replace aq:=bZ aq;replace ar:=bZ ar;go_loopw [7,8] (fun v7 v8 wr=>∃(i k:Nat) (L:List Pt) (vA:Option Addr) (vc:Nat) (cs:List Value),i<=n/\k<=m/\v7=.int .i64 i/\v8=.int .i64 k/\Z (gJ w W0 C a b n m A B c d ca cb ga gb gr gS i k L vA vc cs wr)) (fun i k _=>(n+m) - ((intOf i).toNat+(intOf k).toNat))
  case atStart=>exact⟨0,0,[],none,0,[],C3 _,C3 _,rfl,rfl,cq⟩
  obtain⟨i,k,L,vA,vc,cs,hi,hk,rfl,rfl,s⟩:=hrel;obtain⟨wo,e7⟩:∃x,x=wr:=⟨_,rfl⟩;subst e7;have wi:IntKind.i64.wrap ((i:Int)+1)=(i:Int)+1:=C0 _ (by omega);have wk:IntKind.i64.wrap ((k:Int)+1)=(k:Int)+1:=C0 _ (by omega);clear cq;by_cases e5:i<n\/k<m
  ·have dx:(decide ((i:Int)<(n:Int)) || decide ((k:Int)<(m:Int)))=true:=by simp;omega
   by_cases cu:i<n
   ·have h1:(i:Int)<(n:Int):=by omega
    have d8:((i:Int)==(n:Int))=false:=beq_false_of_ne (by omega);obtain⟨x,hx⟩:=aI (l:=a.pts) (j:=i) (by rw[<-av.o];exact cu);obtain⟨gx,O,oX,F,E,rfl,eg,ek,x0,x1,x2,x3,x4,d2,b9,b0⟩:=hA.o.get hx;replace hx:=bZ hx;by_cases cx:k<m
    ·obtain⟨y,hy⟩:=aI (l:=b.pts) (j:=k) (by rw[<-am.o];exact cx);obtain⟨gy,J,R,q,f,rfl,df,dy,y0,y1,y2,y3,y4,bc,ax,ac⟩:=hB.o.get hy;replace hy:=bZ hy;have h2:(k:Int)<(m:Int):=by omega
     have d9:((k:Int)==(m:Int))=false:=beq_false_of_ne (by omega);have CP:Z (Calls Tryz.prog 198 #[.agg (ptV x oX F E).toArray,.agg (ptV y R q f).toArray] wo.drew (fa wo.drew (kc x y))):=bZ (
      qv C C x y wo.drew oX R F E q f (a4.o x (CW hx.o)).2 (a5.o y (CW hy.o)).2 (b0.keep s.o.kp.drew (by simp)) (ac.keep s.o.kp.drew (by simp)) (fun h2 ef W2 A2 c2 A3 c3 hk hT dk=>by
       have b9:x.of.ok:=by rcases(a4.o x (CW hx.o)).2 with h | h;rw[h.2.2.2];trivial;exact h.2.2.2.2.2.1
       have ax:y.of.ok:=by rcases(a5.o y (CW hy.o)).2 with h | h;rw[h.2.2.2];trivial;exact h.2.2.2.2.2.1
       have u1:=d5.o x (CW hx.o);have u2:=d6.o y (CW hy.o);exact yv C C x.of y.of W2 A2 c2 A3 c3 b9 ax (aA u1) (aA u2) u1 u2 hT dk))
     unfold ptV fa at CP;have a1:wo.cell? (U ga 1)=G (some (U gx O)) n c:=s.o.ba.cell 1;have b1:wo.cell? (U gb 1)=G (some (U gy J)) m d:=s.o.bb.cell 1;go_wp2_with fail;refine ae (S:=(fun w'=>(w'.cell? (U ga 1)=G (some (U gx O)) n c/\w'.cell? (U gb 1)=G (some (U gy J)) m d)/\(w'.cell? (U gx (O+i*5))=some (.int .i64 x.n)/\w'.cell? (U gx (O+i*5+1))=some (.int .i64 x.kd)/\w'.cell? (U gx (O+i*5+2))=some (.int .i64 x.v)/\w'.cell? (U gx (O+i*5+3))=some (.int .i64 x.b)/\w'.cell? (U gx (O+i*5+4))=G oX F E)/\(w'.cell? (U gy (J+k*5))=some (.int .i64 y.n)/\w'.cell? (U gy (J+k*5+1))=some (.int .i64 y.kd)/\w'.cell? (U gy (J+k*5+2))=some (.int .i64 y.v)/\w'.cell? (U gy (J+k*5+3))=some (.int .i64 y.b)/\w'.cell? (U gy (J+k*5+4))=G R q f))) (n:=10) (by kernel_rfl) ?_;have cp:Z (∀W',ad [] w W'->W'.cell? (U ga 1)=G (some (U gx O)) n c->W'.cell? (U gb 1)=G (some (U gy J)) m d->(fun w'=>(w'.cell? (U ga 1)=G (some (U gx O)) n c/\w'.cell? (U gb 1)=G (some (U gy J)) m d)/\(w'.cell? (U gx (O+i*5))=some (.int .i64 x.n)/\w'.cell? (U gx (O+i*5+1))=some (.int .i64 x.kd)/\w'.cell? (U gx (O+i*5+2))=some (.int .i64 x.v)/\w'.cell? (U gx (O+i*5+3))=some (.int .i64 x.b)/\w'.cell? (U gx (O+i*5+4))=G oX F E)/\(w'.cell? (U gy (J+k*5))=some (.int .i64 y.n)/\w'.cell? (U gy (J+k*5+1))=some (.int .i64 y.kd)/\w'.cell? (U gy (J+k*5+2))=some (.int .i64 y.v)/\w'.cell? (U gy (J+k*5+3))=some (.int .i64 y.b)/\w'.cell? (U gy (J+k*5+4))=G R q f)) W'):=bZ (fun W' h u v=>⟨⟨u,v⟩,⟨h.cellEq x0 (by simp),h.cellEq x1 (by simp),h.cellEq x2 (by simp),h.cellEq x3 (by simp),h.cellEq x4 (by simp)⟩,h.cellEq y0 (by simp),h.cellEq y1 (by simp),h.cellEq y2 (by simp),h.cellEq y3 (by simp),h.cellEq y4 (by simp)⟩);have HS:=cp.o wo.drew s.o.kp.drew a1 b1;dsimp only at HS;refine ord [0,1,2,3,4,5,6,7,8,9] ?_
     iterate 10 (refine tq HS ?_;try simp only[PT,Y1,Y2,Y3])
     refine aB ?_;refine J1 10 fun K hK=>?_;dsimp only[Y1,Y2,Y3];go_simp;refine CP.o.mono ?_;rintro e wx ⟨rfl,H⟩;refine hK _ _ (.inl (by omega)) ?_;clear hK K
     try simp only[PT,Y1,Y2,Y3]
     refine JQ 11 ?_
     try simp only[PT,Y1,Y2,Y3]
     refine JD ?_;replace H:=bZ ((ad.refl [] wo).drew.trans H.o);clear HS cp a1 b1 CP;rcases xS x y with ck | ck | ck
     ·have a0:Z (∀z,b.pts[k]? =some z->kc x z<0):=bZ (fun z M=>by rw[hy.o] at M;injection M with M;rw[<-M];omega);have c0:=(s.o.kp.trans H.o).cellEq x0 (by simp);have c1:=(s.o.kp.trans H.o).cellEq x1 (by simp);have c2:=(s.o.kp.trans H.o).cellEq x2 (by simp);have c3:=(s.o.kp.trans H.o).cellEq x3 (by simp);have c4:=(s.o.kp.trans H.o).cellEq x4 (by simp);have bu:gx<wx.heap.size:=block_lt_of_cell c0;have D:=bZ (s.o.keep H.o);have bp:ga<wx.heap.size:=D.o.ba.lt;have bq:gb<wx.heap.size:=D.o.bb.lt;have bo:gS<wx.heap.size:=D.o.S.lt;have a1:wx.cell? (U ga 1)=G (some (U gx O)) n c:=D.o.ba.cell 1;have b1:wx.cell? (U gb 1)=G (some (U gy J)) m d:=D.o.bb.cell 1;have s1:wx.cell? (U gS 1)=G vA L.length vc:=D.o.S.cell 1;obtain⟨p,Q⟩:∃p,p=x:=⟨_,rfl⟩;have W:=bZ (kL.a (ys:=b.pts) hx.o (by rw[<-am.o];exact hk) (a4.o x (CW hx.o)).1 a0.o);have M:p.n≠0:=by rw[Q];exact(a4.o x (CW hx.o)).1
      rw[<-Q] at W c0 c1 c2 c3;have Y:Z (oX=oX/\bP w C p oX F/\F<=E/\E<=maxLen):=bZ (by rw[Q];exact⟨rfl,b0,d2,b9⟩);replace Q:=bZ Q;have b2:(p.n !=0)=true:=by simp[M]
      have P:Z ((L++[p])++aJ (a.pts.drop (i+1)) (b.pts.drop k)=aJ a.pts b.pts):=bZ (by rw[<-D.o.add,W.o.eq,if_neg M,Dd]);have X:=bZ (D.o.keep (((ad.refl [] wx).alloc (.cells #[.int .i64 p.n,.int .i64 p.kd,.int .i64 p.v,.int .i64 p.b,.slice oX F E] 221)).alloc (.cells #[.int .i64 p.n,.int .i64 p.kd,.int .i64 p.v,.int .i64 p.b,.slice oX F E] 221)));have a6:Z (W0.heap.size<=((wx.alloc (.cells #[.int .i64 p.n,.int .i64 p.kd,.int .i64 p.v,.int .i64 p.b,.slice oX F E] 221)).alloc (.cells #[.int .i64 p.n,.int .i64 p.kd,.int .i64 p.v,.int .i64 p.b,.slice oX F E] 221)).heap.size):=bZ (by have:=X.o.lo;exact this);have b5:=D.o.len;replace M:=bZ M;go_wp2_with (at_builtin;refine bK (by rfl) (.tmp 84) (.tmp 86) 36 rfl W0.heap.size 221 i0 (.agg #[.int .i64 0,.int .i64 0,.int .i64 0,.int .i64 0,.slice none 0 0]) 5 56 Tryz.underlying36 ak.o ap.o aq.o ar.o rfl (by decide) _ L.length cs rfl X.o.own (V (wx.heap.size+1)) 1 1 (ptV p oX F E) rfl rfl (dA _ _ _ _ _) (gZ _ _ _ _) (by unfold maxLen;omega) (by omega) a6.o ?_;intro v' wq q1 q2 q3 q4;obtain⟨aa,ab,rfl,a2,a3⟩:=bS q1.o;have y1:wq.cell? (U gS 1)=G vA L.length vc:=(X.o.grown q2.o).cell 1;have yf:wq.frozen? (U gS 1)=false:=(X.o.grown q2.o).frozen 1);have hR:=bZ (X.o.push (i':=(i+1)) (k':=k) P.o (by omega) Y.o.2.1 Y.o.2.2 q1.o q2.o q4.o);clear y1 yf;go_wp2_with fail;go_roundw
      case rel=>exact⟨(i+1),k,L++[p],aa,ab,cs++ptV p oX F E,by omega,by omega,by go_num,by go_num,hR⟩
      case measure=>simp[intOf];omega
     ·have a0:Z (kc x y=0):=bZ ck;have c0:=(s.o.kp.trans H.o).cellEq x0 (by simp);have c1:=(s.o.kp.trans H.o).cellEq x1 (by simp);have c2:=(s.o.kp.trans H.o).cellEq x2 (by simp);have c3:=(s.o.kp.trans H.o).cellEq x3 (by simp);have c4:=(s.o.kp.trans H.o).cellEq x4 (by simp);have bu:gx<wx.heap.size:=block_lt_of_cell c0;have e0:=(s.o.kp.trans H.o).cellEq y0 (by simp);have e1:=(s.o.kp.trans H.o).cellEq y1 (by simp);have e2:=(s.o.kp.trans H.o).cellEq y2 (by simp);have e3:=(s.o.kp.trans H.o).cellEq y3 (by simp);have e4:=(s.o.kp.trans H.o).cellEq y4 (by simp);have bx:gy<wx.heap.size:=block_lt_of_cell e0;have D:=bZ (s.o.keep H.o);have bp:ga<wx.heap.size:=D.o.ba.lt;have bq:gb<wx.heap.size:=D.o.bb.lt;have bo:gS<wx.heap.size:=D.o.S.lt;have a1:wx.cell? (U ga 1)=G (some (U gx O)) n c:=D.o.ba.cell 1;have b1:wx.cell? (U gb 1)=G (some (U gy J)) m d:=D.o.bb.cell 1;have s1:wx.cell? (U gS 1)=G vA L.length vc:=D.o.S.cell 1;obtain⟨p,Q⟩:∃p,p=y.wn (x.n+y.n):=⟨_,rfl⟩;have W:=bZ (kL.both hx.o hy.o a0.o);have wy:IntKind.i64.wrap (y.n+x.n)=p.n:=by rw[C0 _ (by have:=d4.o x (CW hx.o);have:=bd.o y (CW hy.o);omega),Q];exact Int.add_comm _ _
      have f1:y.kd=p.kd:=by rw[Q];rfl
      have f2:y.v=p.v:=by rw[Q];rfl
      have f3:y.b=p.b:=by rw[Q];rfl
      rw[<-Q] at W;rw[f1] at e1;rw[f2] at e2;rw[f3] at e3;clear f1 f2 f3;have Y:Z (R=R/\bP w C p R q/\q<=f/\f<=maxLen):=bZ (by rw[Q];exact⟨rfl,ac,bc,ax⟩);replace Q:=bZ Q;by_cases M:p.n=0
      ·have b2:(p.n !=0)=false:=by simp[M]
       have P:Z (L++aJ (a.pts.drop (i+1)) (b.pts.drop (k+1))=aJ a.pts b.pts):=bZ (by rw[<-D.o.add,W.o.eq,if_pos M];rfl);have hR:=bZ ((D.o.keep ((ad.refl [] wx).alloc (.cells #[.int .i64 p.n,.int .i64 p.kd,.int .i64 p.v,.int .i64 p.b,.slice R q f] 221))).skip P.o (by omega));replace M:=bZ M;go_wp2_with fail;go_roundw
       case rel=>exact⟨i+1,k+1,L,vA,vc,cs,by omega,by omega,by go_num,by go_num,hR⟩
       case measure=>simp[intOf];omega
      have b2:(p.n !=0)=true:=by simp[M]
      have P:Z ((L++[p])++aJ (a.pts.drop (i+1)) (b.pts.drop (k+1))=aJ a.pts b.pts):=bZ (by rw[<-D.o.add,W.o.eq,if_neg M,Dd]);have X:=bZ (D.o.keep (((ad.refl [] wx).alloc (.cells #[.int .i64 p.n,.int .i64 p.kd,.int .i64 p.v,.int .i64 p.b,.slice R q f] 221)).alloc (.cells #[.int .i64 p.n,.int .i64 p.kd,.int .i64 p.v,.int .i64 p.b,.slice R q f] 221)));have a6:Z (W0.heap.size<=((wx.alloc (.cells #[.int .i64 p.n,.int .i64 p.kd,.int .i64 p.v,.int .i64 p.b,.slice R q f] 221)).alloc (.cells #[.int .i64 p.n,.int .i64 p.kd,.int .i64 p.v,.int .i64 p.b,.slice R q f] 221)).heap.size):=bZ (by have:=X.o.lo;exact this);have b5:=D.o.len;replace M:=bZ M;go_wp2_with (at_builtin;refine bK (by rfl) (.tmp 84) (.tmp 86) 36 rfl W0.heap.size 221 i0 (.agg #[.int .i64 0,.int .i64 0,.int .i64 0,.int .i64 0,.slice none 0 0]) 5 56 Tryz.underlying36 ak.o ap.o aq.o ar.o rfl (by decide) _ L.length cs rfl X.o.own (V (wx.heap.size+1)) 1 1 (ptV p R q f) rfl rfl (dA _ _ _ _ _) (gZ _ _ _ _) (by unfold maxLen;omega) (by omega) a6.o ?_;intro v' wq q1 q2 q3 q4;obtain⟨aa,ab,rfl,a2,a3⟩:=bS q1.o;have y1:wq.cell? (U gS 1)=G vA L.length vc:=(X.o.grown q2.o).cell 1;have yf:wq.frozen? (U gS 1)=false:=(X.o.grown q2.o).frozen 1);have hR:=bZ (X.o.push (i':=(i+1)) (k':=(k+1)) P.o (by omega) Y.o.2.1 Y.o.2.2 q1.o q2.o q4.o);clear y1 yf;go_wp2_with fail;go_roundw
      case rel=>exact⟨(i+1),(k+1),L++[p],aa,ab,cs++ptV p R q f,by omega,by omega,by go_num,by go_num,hR⟩
      case measure=>simp[intOf];omega
     have a0:Z (∀z,a.pts[i]? =some z->0<kc z y):=bZ (fun z M=>by rw[hx.o] at M;injection M with M;rw[<-M];omega);have e0:=(s.o.kp.trans H.o).cellEq y0 (by simp);have e1:=(s.o.kp.trans H.o).cellEq y1 (by simp);have e2:=(s.o.kp.trans H.o).cellEq y2 (by simp);have e3:=(s.o.kp.trans H.o).cellEq y3 (by simp);have e4:=(s.o.kp.trans H.o).cellEq y4 (by simp);have bx:gy<wx.heap.size:=block_lt_of_cell e0;have D:=bZ (s.o.keep H.o);have bp:ga<wx.heap.size:=D.o.ba.lt;have bq:gb<wx.heap.size:=D.o.bb.lt;have bo:gS<wx.heap.size:=D.o.S.lt;have a1:wx.cell? (U ga 1)=G (some (U gx O)) n c:=D.o.ba.cell 1;have b1:wx.cell? (U gb 1)=G (some (U gy J)) m d:=D.o.bb.cell 1;have s1:wx.cell? (U gS 1)=G vA L.length vc:=D.o.S.cell 1;obtain⟨p,Q⟩:∃p,p=y:=⟨_,rfl⟩;have W:=bZ (kL.b (xs:=a.pts) hy.o (by rw[<-av.o];exact hi) (a5.o y (CW hy.o)).1 a0.o);have M:p.n≠0:=by rw[Q];exact(a5.o y (CW hy.o)).1
     have wy:IntKind.i64.wrap y.n=y.n:=C0 _ (by have:=bd.o y (CW hy.o);omega);rw[<-Q] at W wy e0 e1 e2 e3;have Y:Z (R=R/\bP w C p R q/\q<=f/\f<=maxLen):=bZ (by rw[Q];exact⟨rfl,ac,bc,ax⟩);replace Q:=bZ Q;have b2:(p.n !=0)=true:=by simp[M]
     have P:Z ((L++[p])++aJ (a.pts.drop i) (b.pts.drop (k+1))=aJ a.pts b.pts):=bZ (by rw[<-D.o.add,W.o.eq,if_neg M,Dd]);have X:=bZ (D.o.keep (((ad.refl [] wx).alloc (.cells #[.int .i64 p.n,.int .i64 p.kd,.int .i64 p.v,.int .i64 p.b,.slice R q f] 221)).alloc (.cells #[.int .i64 p.n,.int .i64 p.kd,.int .i64 p.v,.int .i64 p.b,.slice R q f] 221)));have a6:Z (W0.heap.size<=((wx.alloc (.cells #[.int .i64 p.n,.int .i64 p.kd,.int .i64 p.v,.int .i64 p.b,.slice R q f] 221)).alloc (.cells #[.int .i64 p.n,.int .i64 p.kd,.int .i64 p.v,.int .i64 p.b,.slice R q f] 221)).heap.size):=bZ (by have:=X.o.lo;exact this);have b5:=D.o.len;replace M:=bZ M;go_wp2_with (at_builtin;refine bK (by rfl) (.tmp 84) (.tmp 86) 36 rfl W0.heap.size 221 i0 (.agg #[.int .i64 0,.int .i64 0,.int .i64 0,.int .i64 0,.slice none 0 0]) 5 56 Tryz.underlying36 ak.o ap.o aq.o ar.o rfl (by decide) _ L.length cs rfl X.o.own (V (wx.heap.size+1)) 1 1 (ptV p R q f) rfl rfl (dA _ _ _ _ _) (gZ _ _ _ _) (by unfold maxLen;omega) (by omega) a6.o ?_;intro v' wq q1 q2 q3 q4;obtain⟨aa,ab,rfl,a2,a3⟩:=bS q1.o;have y1:wq.cell? (U gS 1)=G vA L.length vc:=(X.o.grown q2.o).cell 1;have yf:wq.frozen? (U gS 1)=false:=(X.o.grown q2.o).frozen 1);have hR:=bZ (X.o.push (i':=i) (k':=(k+1)) P.o (by omega) Y.o.2.1 Y.o.2.2 q1.o q2.o q4.o);clear y1 yf;go_wp2_with fail;go_roundw
     case rel=>exact⟨i,(k+1),L++[p],aa,ab,cs++ptV p R q f,by omega,by omega,by go_num,by go_num,hR⟩
     case measure=>simp[intOf];omega
    have cy:Z (k=m):=bZ (by omega);have d9:((k:Int)==(m:Int))=true:=by rw[cy.o];simp
    have a0:Z (∀y,b.pts[k]? =some y->kc x y<0):=bZ (fun y hy=>by have:=(CV.1 hy).1;rw[<-am.o] at this;omega);clear cx;obtain⟨wx,a9⟩:∃wx,wx=wo:=⟨_,rfl⟩;have H:Z (ad [] wo wx):=bZ (by rw[a9];exact ad.refl _ _);rw[<-a9];replace a9:=bZ a9;have c0:=(s.o.kp.trans H.o).cellEq x0 (by simp);have c1:=(s.o.kp.trans H.o).cellEq x1 (by simp);have c2:=(s.o.kp.trans H.o).cellEq x2 (by simp);have c3:=(s.o.kp.trans H.o).cellEq x3 (by simp);have c4:=(s.o.kp.trans H.o).cellEq x4 (by simp);have bu:gx<wx.heap.size:=block_lt_of_cell c0;have D:=bZ (s.o.keep H.o);have bp:ga<wx.heap.size:=D.o.ba.lt;have bq:gb<wx.heap.size:=D.o.bb.lt;have bo:gS<wx.heap.size:=D.o.S.lt;have a1:wx.cell? (U ga 1)=G (some (U gx O)) n c:=D.o.ba.cell 1;have b1:wx.cell? (U gb 1)=G B m d:=D.o.bb.cell 1;have s1:wx.cell? (U gS 1)=G vA L.length vc:=D.o.S.cell 1;obtain⟨p,Q⟩:∃p,p=x:=⟨_,rfl⟩;have W:=bZ (kL.a (ys:=b.pts) hx.o (by rw[<-am.o];exact hk) (a4.o x (CW hx.o)).1 a0.o);have M:p.n≠0:=by rw[Q];exact(a4.o x (CW hx.o)).1
    rw[<-Q] at W c0 c1 c2 c3;have Y:Z (oX=oX/\bP w C p oX F/\F<=E/\E<=maxLen):=bZ (by rw[Q];exact⟨rfl,b0,d2,b9⟩);replace Q:=bZ Q;have b2:(p.n !=0)=true:=by simp[M]
    have P:Z ((L++[p])++aJ (a.pts.drop (i+1)) (b.pts.drop k)=aJ a.pts b.pts):=bZ (by rw[<-D.o.add,W.o.eq,if_neg M,Dd]);have X:=bZ (D.o.keep (((ad.refl [] wx).alloc (.cells #[.int .i64 p.n,.int .i64 p.kd,.int .i64 p.v,.int .i64 p.b,.slice oX F E] 221)).alloc (.cells #[.int .i64 p.n,.int .i64 p.kd,.int .i64 p.v,.int .i64 p.b,.slice oX F E] 221)));have a6:Z (W0.heap.size<=((wx.alloc (.cells #[.int .i64 p.n,.int .i64 p.kd,.int .i64 p.v,.int .i64 p.b,.slice oX F E] 221)).alloc (.cells #[.int .i64 p.n,.int .i64 p.kd,.int .i64 p.v,.int .i64 p.b,.slice oX F E] 221)).heap.size):=bZ (by have:=X.o.lo;exact this);have b5:=D.o.len;replace M:=bZ M;go_wp2_with (at_builtin;refine bK (by rfl) (.tmp 84) (.tmp 86) 36 rfl W0.heap.size 221 i0 (.agg #[.int .i64 0,.int .i64 0,.int .i64 0,.int .i64 0,.slice none 0 0]) 5 56 Tryz.underlying36 ak.o ap.o aq.o ar.o rfl (by decide) _ L.length cs rfl X.o.own (V (wx.heap.size+1)) 1 1 (ptV p oX F E) rfl rfl (dA _ _ _ _ _) (gZ _ _ _ _) (by unfold maxLen;omega) (by omega) a6.o ?_;intro v' wq q1 q2 q3 q4;obtain⟨aa,ab,rfl,a2,a3⟩:=bS q1.o;have y1:wq.cell? (U gS 1)=G vA L.length vc:=(X.o.grown q2.o).cell 1;have yf:wq.frozen? (U gS 1)=false:=(X.o.grown q2.o).frozen 1);have hR:=bZ (X.o.push (i':=(i+1)) (k':=k) P.o (by omega) Y.o.2.1 Y.o.2.2 q1.o q2.o q4.o);clear y1 yf;go_wp2_with fail;go_roundw
    case rel=>exact⟨(i+1),k,L++[p],aa,ab,cs++ptV p oX F E,by omega,by omega,by go_num,by go_num,hR⟩
    case measure=>simp[intOf];omega
   have cv:Z (i=n):=bZ (by omega);have d8:((i:Int)==(n:Int))=true:=by rw[cv.o];simp
   have h1:((i:Int)<(n:Int))=False:=eq_false (by omega);have h2:(k:Int)<(m:Int):=by omega
   obtain⟨y,hy⟩:=aI (l:=b.pts) (j:=k) (by rw[<-am.o];omega);obtain⟨gy,J,R,q,f,rfl,df,dy,y0,y1,y2,y3,y4,bc,ax,ac⟩:=hB.o.get hy;replace hy:=bZ hy;have a0:Z (∀x,a.pts[i]? =some x->0<kc x y):=bZ (fun x hx=>by have:=(CV.1 hx).1;rw[<-av.o] at this;omega);clear cu;obtain⟨wx,a9⟩:∃wx,wx=wo:=⟨_,rfl⟩;have H:Z (ad [] wo wx):=bZ (by rw[a9];exact ad.refl _ _);rw[<-a9];replace a9:=bZ a9;have e0:=(s.o.kp.trans H.o).cellEq y0 (by simp);have e1:=(s.o.kp.trans H.o).cellEq y1 (by simp);have e2:=(s.o.kp.trans H.o).cellEq y2 (by simp);have e3:=(s.o.kp.trans H.o).cellEq y3 (by simp);have e4:=(s.o.kp.trans H.o).cellEq y4 (by simp);have bx:gy<wx.heap.size:=block_lt_of_cell e0;have D:=bZ (s.o.keep H.o);have bp:ga<wx.heap.size:=D.o.ba.lt;have bq:gb<wx.heap.size:=D.o.bb.lt;have bo:gS<wx.heap.size:=D.o.S.lt;have a1:wx.cell? (U ga 1)=G A n c:=D.o.ba.cell 1;have b1:wx.cell? (U gb 1)=G (some (U gy J)) m d:=D.o.bb.cell 1;have s1:wx.cell? (U gS 1)=G vA L.length vc:=D.o.S.cell 1;obtain⟨p,Q⟩:∃p,p=y:=⟨_,rfl⟩;have W:=bZ (kL.b (xs:=a.pts) hy.o (by rw[<-av.o];exact hi) (a5.o y (CW hy.o)).1 a0.o);have M:p.n≠0:=by rw[Q];exact(a5.o y (CW hy.o)).1
   have wy:IntKind.i64.wrap y.n=y.n:=C0 _ (by have:=bd.o y (CW hy.o);omega);rw[<-Q] at W wy e0 e1 e2 e3;have Y:Z (R=R/\bP w C p R q/\q<=f/\f<=maxLen):=bZ (by rw[Q];exact⟨rfl,ac,bc,ax⟩);replace Q:=bZ Q;have b2:(p.n !=0)=true:=by simp[M]
   have P:Z ((L++[p])++aJ (a.pts.drop i) (b.pts.drop (k+1))=aJ a.pts b.pts):=bZ (by rw[<-D.o.add,W.o.eq,if_neg M,Dd]);have X:=bZ (D.o.keep (((ad.refl [] wx).alloc (.cells #[.int .i64 p.n,.int .i64 p.kd,.int .i64 p.v,.int .i64 p.b,.slice R q f] 221)).alloc (.cells #[.int .i64 p.n,.int .i64 p.kd,.int .i64 p.v,.int .i64 p.b,.slice R q f] 221)));have a6:Z (W0.heap.size<=((wx.alloc (.cells #[.int .i64 p.n,.int .i64 p.kd,.int .i64 p.v,.int .i64 p.b,.slice R q f] 221)).alloc (.cells #[.int .i64 p.n,.int .i64 p.kd,.int .i64 p.v,.int .i64 p.b,.slice R q f] 221)).heap.size):=bZ (by have:=X.o.lo;exact this);have b5:=D.o.len;replace M:=bZ M;go_wp2_with (at_builtin;refine bK (by rfl) (.tmp 84) (.tmp 86) 36 rfl W0.heap.size 221 i0 (.agg #[.int .i64 0,.int .i64 0,.int .i64 0,.int .i64 0,.slice none 0 0]) 5 56 Tryz.underlying36 ak.o ap.o aq.o ar.o rfl (by decide) _ L.length cs rfl X.o.own (V (wx.heap.size+1)) 1 1 (ptV p R q f) rfl rfl (dA _ _ _ _ _) (gZ _ _ _ _) (by unfold maxLen;omega) (by omega) a6.o ?_;intro v' wq q1 q2 q3 q4;obtain⟨aa,ab,rfl,a2,a3⟩:=bS q1.o;have y1:wq.cell? (U gS 1)=G vA L.length vc:=(X.o.grown q2.o).cell 1;have yf:wq.frozen? (U gS 1)=false:=(X.o.grown q2.o).frozen 1);have hR:=bZ (X.o.push (i':=i) (k':=(k+1)) P.o (by omega) Y.o.2.1 Y.o.2.2 q1.o q2.o q4.o);clear y1 yf;go_wp2_with fail;go_roundw
   case rel=>exact⟨i,(k+1),L++[p],aa,ab,cs++ptV p R q f,by omega,by omega,by go_num,by go_num,hR⟩
   case measure=>simp[intOf];omega
  have dx:(decide ((i:Int)<(n:Int)) || decide ((k:Int)<(m:Int)))=false:=by simp;omega
  have g1:((i:Int)<(n:Int))=False:=eq_false (by omega);have g2:((k:Int)<(m:Int))=False:=eq_false (by omega);obtain⟨t,ht⟩:∃t,t=aQ a b:=⟨_,rfl⟩;have bk:t.pts=L:=by
   have:=s.o.add;rw[DB (l:=a.pts) (by rw[<-av.o];omega),DB (l:=b.pts) (by rw[<-am.o];omega),aJ,DA] at this;rw[ht,aQ,T.mk_pts,this]
  have co:t.con=ca+cb:=by rw[ht,aQ,T.mk_con,bs.o,bt.o]
  have b3:t.ok:=by rw[ht];exact iL an.o.1 ao.o.1
  have b4:t.wd<=1000000:=by rw[ht];exact eY bm.o bn.o (by rw[<-av.o,<-am.o];exact bz)
  have c7:Md t:=by
   refine⟨by rw[co];have:=an.o.2.1.1;have:=ao.o.2.1.1;rw[<-bs.o] at*;rw[<-bt.o] at*;omega,fun p Q=>?_⟩;rw[ht,aQ,T.mk_pts] at Q;have:=eL (N:=1048576) d4.o bd.o p Q;omega
  have cr:TAt wo (fun _=>True) vA t:=⟨cs,(dq s.o.own).mono (fun _ _ _=>trivial),by rw[T.tr_eq,bk];exact s.o.is_.mono (fun _ _ _=>trivial)⟩;obtain⟨_,a2,a3⟩:True/\L.length<=vc/\vc<=maxLen:=by
   obtain⟨A',c',e,h1,h2⟩:=bS s.o.own;injection e with _ _ e;rw[e];exact⟨trivial,h1,h2⟩
  have CK:Z (Calls Tryz.prog 197 #[.agg #[.int .i64 (ca+cb),.slice vA L.length vc]] wo (TeP wo (fun _=>True) (al t))):=bZ (by
   have:=eW (fun _=>True) t wo vA vc (by rw[bk];exact⟨a2,a3⟩) b3 c7 b4 cr;unfold tmV at this;rw[co,bk] at this;exact this)
  obtain⟨r,hr⟩:∃r,r=al t:=⟨_,rfl⟩;have cm:Z (r.1.ok/\r.1.wd<=1000000):=bZ (by rw[hr];unfold al;split;exact⟨b3,b4⟩;exact⟨trivial,by simp[T.wd]⟩);rw[<-hr] at CK;have e6:Z (al (aQ a b)=r):=bZ (by rw[hr,ht]);have s0:wo.cell? (U gS 0)=some (.int .i64 (ca+cb)):=s.o.S.cell 0;have s1:wo.cell? (U gS 1)=G vA L.length vc:=s.o.S.cell 1;have a1:wo.cell? (U ga 1)=G A n c:=s.o.ba.cell 1;have b1:wo.cell? (U gb 1)=G B m d:=s.o.bb.cell 1;clear ht bk co b3 b4 c7 cr a2 a3 hr hA hB;have dc:=bZ s.o.br;go_wp2_with (first | (go_at_call 197;refine CK.o.mono ?_;rintro e w5 ⟨A5,c5,rfl,m1,m2,dr,k5⟩) | (go_at_call 196;refine(kE (fun _=>True) r.1 _ A5 c5 cm.o.1 (aA cm.o.2) cm.o.2 (dr.o.keep0 ((ad.refl [] w5).alloc _))).mono ?_;rintro e w6 ⟨A6,c6,ee,rfl,n1,n2,o6,i6,k6⟩;have au:=bZ (dc.o.keep ((k5.o.alloc _).trans k6.o) (by simp));have y0:w6.cell? (U gr 0)=some (.int .i64 0):=au.o.cell 0;have y1:w6.cell? (U gr 1)=G none 0 0:=au.o.cell 1;have yf:=au.o.frozen));have bf:=(au.o.set_ 0 (.int .i64 r.1.con)).set_ 1 (.slice A6 r.1.pts.length c6);have d0:=bf.cell 0;have d1:=bf.cell 1;have kf:=((ad.refl [gr] w6).setCell (p:=(U gr 0)) (.inl (by simp)) (.int .i64 r.1.con)).setCell (p:=(U gr 1)) (.inl (by simp)) (.slice A6 r.1.pts.length c6);have e8:ad [] w w6:=(s.o.kp.trans (k5.o.alloc _)).trans k6.o;have el:W0.heap.size<=(w5.alloc (.cells #[.int .i64 r.1.con,.slice A5 r.1.pts.length c5] 38)).heap.size:=Dc s.o.lo (k5.o.alloc _).size;have cl:TeP w (fun g=>w.heap.size<=g) r (.returned (.tuple #[.agg #[.int .i64 r.1.con,.slice A6 r.1.pts.length c6],.int .i64 r.2])) ((w6.setCell (U gr 0) (.int .i64 r.1.con)).setCell (U gr 1) (.slice A6 r.1.pts.length c6)):=by
   refine⟨A6,c6,rfl,n1,n2,bZ ?_,bZ ((e8.nil.trans kf).mono (fun y hy=>.inr (by rw[CZ.1 hy];have:=b8.o;omega)))⟩;exact((kK.at_ o6.o i6.o).keep kf (fun y hy hc=>by rw[CZ.1 hy] at hc;have:=b8.o;omega)).mono (fun g _ hg=>by have:=b8.o;omega)
  refine bodyPost_ret (v:=.tuple #[.agg #[.int .i64 r.1.con,.slice A6 r.1.pts.length c6],.int .i64 r.2]) (by simp[results,Tryz.results156,go_sem,d0,d1]) rfl ?_;rw[e6.o];exact cl
end
end Go.Proofs.YtldmkbhgdbafhaaGreat
