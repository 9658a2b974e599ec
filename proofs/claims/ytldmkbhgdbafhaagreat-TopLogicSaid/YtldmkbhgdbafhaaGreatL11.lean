import Derived.Deep.DeepCutAuto
import Derived.Laws.OwnMore
import Derived.Lib.SmallJoins
import Derived.Test.YtldmkbhgdbafhaaGreatL10
namespace Go.Proofs.YtldmkbhgdbafhaaGreat
open Go.RowKit
set_option linter.unusedSimpArgs false
set_option linter.unusedVariables false
set_option maxRecDepth 100000
set_option maxHeartbeats 64000000
def T.dr (j:Nat) (t:T):T:=.mk (t.pts.drop j) t.con
theorem T.dr0 (t:T):t.dr 0=t:=T.mk_eta t
theorem rA (x y z:Int):orI (orI x y) z=orI x (orI y z):=by unfold orI;repeat' split<;>first | rfl | omega
theorem xh (y:Int):orI 0 y=y:=by unfold orI;simp
theorem ph {x:Int} (h:x≠0) (y:Int):orI x y=x:=by unfold orI;rw[if_pos h]
theorem T.cmp_step {a b:T} {j:Nat} {x y:Pt} (c:a.pts[j]? =some x) (d:b.pts[j]? =some y):T.cmp (a.dr j) (b.dr j)=orI (orI (kc x y) (ai x.n y.n)) (T.cmp (a.dr (j+1)) (b.dr (j+1))):=by
 unfold T.dr;rw[cW c,cW d,rA];rfl
theorem T.cmp_end {a b:T} {j:Nat} (h:j=min a.pts.length b.pts.length):T.cmp (a.dr j) (b.dr j)=orI (ai (a.pts.length:Int) (b.pts.length:Int)) (ai a.con b.con):=by
 unfold T.dr;rcases Nat.lt_trichotomy a.pts.length b.pts.length with c | c | c
 ·obtain⟨y,d⟩:=aI (l:=b.pts) (j:=j) (by omega);rw[DB (l:=a.pts) (by omega),cW d,ph (by unfold ai;rw[if_pos (by omega)];omega)];unfold ai;rw[if_pos (by omega)];rfl
 ·rw[DB (l:=a.pts) (by omega),DB (l:=b.pts) (by omega),c,aT.2 rfl,xh];rfl
 obtain⟨y,d⟩:=aI (l:=a.pts) (j:=j) (by omega);rw[cW d,DB (l:=b.pts) (by omega),ph (by unfold ai;rw[if_neg (by omega),if_pos (by omega)];omega)];unfold ai;rw[if_neg (by omega),if_pos (by omega)];rfl
theorem aX (w:World) (t:TypeId) (cs a:Array Value):Blk ((w.alloc (.cells cs t)).alloc (.cells a t)) w.heap.size t cs/\Blk ((w.alloc (.cells cs t)).alloc (.cells a t)) (w.heap.size+1) t a/\ad [] w ((w.alloc (.cells cs t)).alloc (.cells a t)):=
 ⟨(Blk.new w t cs).alloc _,by have:=Blk.new (w.alloc (.cells cs t)) t a;simpa using this,((ad.refl [] w).alloc _).alloc _⟩
theorem y9 (W:World) (a b:Int):Calls Tryz.prog 220 #[.slice (V W.heap.size) 2 2] (W.alloc (.cells #[I a,I b] 3)) fun e c=>e=.returned (I (orI a b))/\c=W.alloc (.cells #[I a,I b] 3):=
 or2 _ _ a b ((Blk.new W 3 #[I a,I b]).cell 0) ((Blk.new W 3 #[I a,I b]).cell 1)
theorem yv (C D:Nat->Prop):∀(a b:T) (w:World) (A:Option Addr) (c:Nat) (B:Option Addr) (d:Nat),a.ok->b.ok->a.pts.length<=1000000->b.pts.length<=1000000->a.wd<=1000000->b.wd<=1000000->TAt w C A a->TAt w D B b->
 Calls Tryz.prog 223 #[tmV a A c,tmV b B d] w (fa w (a.cmp b)):=by
  refine T.ind (fun a ih=>?_);intro b w A c B d a3 a4 b3 b4 a9 aa hA hB;obtain⟨n,hn⟩:∃n,n=a.pts.length:=⟨_,rfl⟩;obtain⟨m,hm⟩:∃m,m=b.pts.length:=⟨_,rfl⟩;obtain⟨k,hk⟩:∃k,k=a.con:=⟨_,rfl⟩;obtain⟨l,hl⟩:∃l,l=b.con:=⟨_,rfl⟩;obtain⟨r,hr⟩:∃r,r=a.cmp b:=⟨_,rfl⟩;have bf:Z (T.cmp (a.dr 0) (b.dr 0)=r):=bZ (by rw[T.dr0,T.dr0,hr]);rw[<-hr];rw[T.ok_iff] at a3 a4;rw[T.wd_iff] at a9 aa;unfold tmV fa;rw[<-hn,<-hm,<-hk,<-hl];have b6:=bZ hn;have b5:=bZ hm;have an:Z (∀j,j=min n m->T.cmp (a.dr j) (b.dr j)=r->orI (ai (n:Int) (m:Int)) (ai k l)=r):=bZ (fun j hj h=>by
   rw[<-h,T.cmp_end (by rw[<-hn,<-hm];exact hj),hn,hm,hk,hl])
  rw[<-hn] at b3;rw[<-hm] at b4;replace a3:=bZ a3;replace a4:=bZ a4;replace a9:=bZ a9.2;replace aa:=bZ aa.2;replace hA:=bZ hA;replace hB:=bZ hB;replace ih:=bZ ih;have H1:=bZ (fun W a b=>uq W a b);have H2:=bZ (fun W a b=>uo W a b);clear hr hn hm hk hl;obtain⟨W0,Y⟩:∃W0,W0=(w.alloc (.cells #[I k,.slice A n c] 38)).alloc (.cells #[I l,.slice B m d] 38):=⟨_,rfl⟩;have k0:ad [] w W0:=by rw[Y];exact((ad.refl [] w).alloc _).alloc _
  have ba:Blk W0 w.heap.size 38 #[I k,.slice A n c]:=by rw[Y];exact(Blk.new w 38 _).alloc _
  have bb:Blk W0 (w.heap.size+1) 38 #[I l,.slice B m d]:=by
   rw[Y];have:=Blk.new (w.alloc (.cells #[I k,.slice A n c] 38)) 38 #[I l,.slice B m d];simpa using this
  replace k0:=bZ k0;go_enter Tryz.func223,Tryz.ntmps223;obtain⟨M,hM⟩:∃M,M=min n m:=⟨_,rfl⟩;have ax:min (n:Int) (m:Int)=(M:Int):=by omega
  have bq:M<=n:=by omega
  have bp:M<=m:=by omega
  replace hM:=bZ hM;go_wp2_with fail;rw[<-Y];clear ax;obtain⟨ga,ao⟩:∃g,g=w.heap.size:=⟨_,rfl⟩;obtain⟨gb,ap⟩:∃g,g=w.heap.size+1:=⟨_,rfl⟩;rw[<-ap] at bb ⊢;rw[<-ao] at ba ⊢;clear Y ao ap;replace ba:=bZ ba;replace bb:=bZ bb;go_loopw [16] (fun i wr=>∃j:Nat,j<=M/\i=I j/\Z (T.cmp (a.dr j) (b.dr j)=r)/\Z (ad [] W0 wr)) (fun i _=>M - (intOf i).toNat)
  case atStart=>exact⟨0,C3 _,rfl,bf,bZ (ad.refl _ _)⟩
  obtain⟨j,hj,rfl,a2,O⟩:=hrel;obtain⟨E,bm⟩:∃x,x=wr:=⟨_,rfl⟩;subst bm;have xa:=ba.o.keep O.o (by simp);have xb:=bb.o.keep O.o (by simp);by_cases bz:j<M
  ·obtain⟨p,hp⟩:=aI (l:=a.pts) (j:=j) (by rw[<-b6.o];omega);obtain⟨q,hq⟩:=aI (l:=b.pts) (j:=j) (by rw[<-b5.o];omega);obtain⟨g,z,oA,on,oc,rfl,hC,hg,c0,c1,c2,c3,c4,b8,b9,au⟩:=(hA.o.keep0 (k0.o.trans O.o)).get hp;obtain⟨N,t,oB,L,J,rfl,hD,br,e0,e1,e2,e3,e4,aq,ar,ab⟩:=(hB.o.keep0 (k0.o.trans O.o)).get hq;have P:=CW hp;have a5:=CW hq;have bu:(j:Int)<(n:Int):=by omega
   have bt:(j:Int)<(m:Int):=by omega
   have bs:(j:Int)<(M:Int):=by omega
   have wj:IntKind.i64.wrap ((j:Int)+1)=(j:Int)+1:=C0 _ (by omega);have a1:E.cell? (U ga 1)=G (some (U g z)) n c:=xa.cell 1;have b1:E.cell? (U gb 1)=G (some (U N t)) m d:=xb.cell 1;obtain⟨s,hs⟩:∃s,s=orI (kc p q) (ai p.n q.n):=⟨_,rfl⟩;have a6:Z (T.cmp (a.dr j) (b.dr j)=orI s (T.cmp (a.dr (j+1)) (b.dr (j+1)))):=bZ (by rw[T.cmp_step hp hq,hs]);have CP:Z (∀W,ad [] E W->Calls Tryz.prog 198 #[.agg (ptV p oA on oc).toArray,.agg (ptV q oB L J).toArray] W (fa W (kc p q))):=bZ (fun W hW=>
    qv C D p q W oA oB on oc L J (a3.o p P).2 (a4.o q a5).2 (au.keep hW (by simp)) (ab.keep hW (by simp)) (fun h2 bo W2 A2 c2 A3 c3 hk hT b2=>by
     have bc:p.of.ok:=by rcases(a3.o p P).2 with h | h;rw[h.2.2.2];trivial;exact h.2.2.2.2.2.1
     have bd:q.of.ok:=by rcases(a4.o q a5).2 with h | h;rw[h.2.2.2];trivial;exact h.2.2.2.2.2.1
     exact ih.o p P q.of W2 A2 c2 A3 c3 bc bd (aA (a9.o p P)) (aA (aa.o q a5)) (a9.o p P) (aa.o q a5) hT b2))
   unfold ptV fa at CP;have c6:=bZ hp;have c7:=bZ hq;clear hp hq P a5 au ab b8 b9 aq ar xa xb hC hD;go_wp2_with fail;go_cut [6,7] (fun v6 v7 wx=>∃x y,v6=.pointer (V x)/\v7=.pointer (V y)/\Z (Blk wx x 221 #[I p.n,I p.kd,I p.v,I p.b,.slice oA on oc])/\Z (Blk wx y 221 #[I q.n,I q.kd,I q.v,I q.b,.slice oB L J])/\Z (ad [] E wx))
   case first=>
    refine ae (S:=(fun f=>(f.cell? (U ga 1)=G (some (U g z)) n c/\f.cell? (U gb 1)=G (some (U N t)) m d)/\(f.cell? (U g (z+j*5))=some (I p.n)/\f.cell? (U g (z+j*5+1))=some (I p.kd)/\f.cell? (U g (z+j*5+2))=some (I p.v)/\f.cell? (U g (z+j*5+3))=some (I p.b)/\f.cell? (U g (z+j*5+4))=G oA on oc)/\f.cell? (U N (t+j*5))=some (I q.n)/\f.cell? (U N (t+j*5+1))=some (I q.kd)/\f.cell? (U N (t+j*5+2))=some (I q.v)/\f.cell? (U N (t+j*5+3))=some (I q.b)/\f.cell? (U N (t+j*5+4))=G oB L J)) (n:=13) (by kernel_rfl) ?_;have H:Z (∀W',ad [] E W'->(fun f=>(f.cell? (U ga 1)=G (some (U g z)) n c/\f.cell? (U gb 1)=G (some (U N t)) m d)/\(f.cell? (U g (z+j*5))=some (I p.n)/\f.cell? (U g (z+j*5+1))=some (I p.kd)/\f.cell? (U g (z+j*5+2))=some (I p.v)/\f.cell? (U g (z+j*5+3))=some (I p.b)/\f.cell? (U g (z+j*5+4))=G oA on oc)/\f.cell? (U N (t+j*5))=some (I q.n)/\f.cell? (U N (t+j*5+1))=some (I q.kd)/\f.cell? (U N (t+j*5+2))=some (I q.v)/\f.cell? (U N (t+j*5+3))=some (I q.b)/\f.cell? (U N (t+j*5+4))=G oB L J) W'):=bZ (fun W' h=>⟨⟨h.cellEq a1 (by simp),h.cellEq b1 (by simp)⟩,⟨h.cellEq c0 (by simp),h.cellEq c1 (by simp),h.cellEq c2 (by simp),h.cellEq c3 (by simp),h.cellEq c4 (by simp)⟩,h.cellEq e0 (by simp),h.cellEq e1 (by simp),h.cellEq e2 (by simp),h.cellEq e3 (by simp),h.cellEq e4 (by simp)⟩);have F:=H.o E.drew (ad.refl [] E).drew;have Q:=H.o (E.alloc (.cells #[I 0,I 0,I 0,I 0,.slice none 0 0] 221)).drew ((ad.refl [] E).alloc _).drew;have R:=H.o ((E.alloc (.cells #[I 0,I 0,I 0,I 0,.slice none 0 0] 221)).alloc (.cells #[I 0,I 0,I 0,I 0,.slice none 0 0] 221)).drew (((ad.refl [] E).alloc _).alloc _).drew;have ak:=H.o ((E.alloc (.cells #[I p.n,I p.kd,I p.v,I p.b,.slice oA on oc] 221)).alloc (.cells #[I 0,I 0,I 0,I 0,.slice none 0 0] 221)).drew (((ad.refl [] E).alloc _).alloc _).drew;have am:=H.o ((E.alloc (.cells #[I 0,I 0,I 0,I 0,.slice none 0 0] 221)).alloc (.cells #[I p.n,I p.kd,I p.v,I p.b,.slice oA on oc] 221)).drew (((ad.refl [] E).alloc _).alloc _).drew;dsimp only at F Q R ak am;clear a1 b1 c0 c1 c2 c3 c4 e0 e1 e2 e3 e4
    repeat' first
     |
      refine at_ 10 ?_;dsimp only[Y1,Y2,Y3];go_simp
      first | (refine u _ _ (.inr Q) ?_;replace F:=Q) | (refine u _ _ (.inr R) ?_;replace F:=R)
      clear u K
      try simp only[PT,Y1,Y2,Y3]
     |
      refine at_ 11 ?_;dsimp only[Y1,Y2,Y3];go_simp
      first | (refine u _ _ (.inr Q) ?_;replace F:=Q) | (refine u _ _ (.inr R) ?_;replace F:=R)
      clear u K
      try simp only[PT,Y1,Y2,Y3]
     |
      refine at_ 12 ?_;dsimp only[Y1,Y2,Y3];go_simp
      first | (refine u _ _ (.inr ak) ?_) | (refine u _ _ (.inr am) ?_)
      clear u K
      try simp only[PT,Y1,Y2,Y3]
     |
      refine at_ 13 ?_;dsimp only[Y1,Y2,Y3];go_simp;refine u _ _ (.inl (by omega)) ?_;clear u K
      try simp only[PT,Y1,Y2,Y3]
     |
      refine r8 [0,2,5,7,10,11] [0,1,2,3,4,5,6,7,8,9] ?_
      iterate 10 (refine tq F ?_;try simp only[PT,Y1,Y2,Y3])
      refine aB ?_
     |
      refine J2 10 11 (fun K u=>?_) (fun K u=>?_)
     |
      refine J1' 11 (fun K u=>?_)
     |
      refine J1' 12 (fun K u=>?_)
     |
      refine J1' 13 (fun K u=>?_)
     |
      refine J1' 10 (fun K u=>?_)
     |
      refine JD ?_;go_wp2_with fail;go_meet
      first | exact⟨_,_,rfl,rfl,bZ (aX _ _ _ _).1.drew,bZ (aX _ _ _ _).2.1.drew,bZ (aX _ _ _ _).2.2.drew⟩ | exact⟨_,_,rfl,rfl,bZ (aX _ _ _ _).2.1.drew,bZ (aX _ _ _ _).1.drew,bZ (aX _ _ _ _).2.2.drew⟩
   obtain⟨x,y,rfl,rfl,hx,hy,ac⟩:=hcut;obtain⟨wx,bn⟩:∃x,x=wc:=⟨_,rfl⟩;subst bn;have H3:Z (∀W:World,Calls Tryz.prog 220 #[.slice (V W.heap.size) 2 2] (W.alloc (.cells #[I (kc p q),I (ai p.n q.n)] 3)) fun e f=>e=.returned (I s)/\f=W.alloc (.cells #[I (kc p q),I (ai p.n q.n)] 3)):=bZ (fun W=>by rw[hs];exact y9 W _ _);replace hs:=bZ hs;go_wp2_with fail;refine ae (S:=(fun f=>(f.cell? (U x 0)=some (I p.n)/\f.cell? (U x 1)=some (I p.kd)/\f.cell? (U x 2)=some (I p.v)/\f.cell? (U x 3)=some (I p.b)/\f.cell? (U x 4)=G oA on oc)/\f.cell? (U y 0)=some (I q.n)/\f.cell? (U y 1)=some (I q.kd)/\f.cell? (U y 2)=some (I q.v)/\f.cell? (U y 3)=some (I q.b)/\f.cell? (U y 4)=G oB L J)) (n:=8) (by kernel_rfl) ?_;have H:Z (∀W',ad [] wx W'->(fun f=>(f.cell? (U x 0)=some (I p.n)/\f.cell? (U x 1)=some (I p.kd)/\f.cell? (U x 2)=some (I p.v)/\f.cell? (U x 3)=some (I p.b)/\f.cell? (U x 4)=G oA on oc)/\f.cell? (U y 0)=some (I q.n)/\f.cell? (U y 1)=some (I q.kd)/\f.cell? (U y 2)=some (I q.v)/\f.cell? (U y 3)=some (I q.b)/\f.cell? (U y 4)=G oB L J) W'):=bZ (fun W' h=>by
    have bx:=hx.o.keep h (by simp);have X:=hy.o.keep h (by simp);exact⟨⟨bx.cell 0,bx.cell 1,bx.cell 2,bx.cell 3,bx.cell 4⟩,X.cell 0,X.cell 1,X.cell 2,X.cell 3,X.cell 4⟩)
   have F:=H.o wx.drew (ad.refl [] wx).drew;dsimp only at F;refine ord [0,1,3,4,5,6] ?_
   iterate 6 (refine tq F ?_;try simp only[PT,Y1,Y2,Y3])
   refine aB ?_;refine J1 2 fun K u=>?_;dsimp only[Y1,Y2,Y3];go_simp;refine(CP.o _ ac.o.drew).mono ?_;rintro e w5 ⟨rfl,k5⟩;replace k5:=bZ (((ad.refl [] wx).drew).trans k5.o);replace F:=H.o w5 k5.o;dsimp only at F;refine u _ _ (.inr F) ?_;clear u K
   try simp only[PT,Y1,Y2,Y3]
   refine J1 7 fun K u=>?_;dsimp only[Y1,Y2,Y3];go_simp;refine(H2.o _ _ _).mono ?_;rintro e w6 ⟨rfl,rfl⟩;refine u _ _ (.inr F) ?_;clear u K
   try simp only[PT,Y1,Y2,Y3]
   refine JQ 8 ?_
   try simp only[PT,Y1,Y2,Y3]
   refine J1 9 fun K u=>?_;dsimp only[Y1,Y2,Y3];go_simp;refine(H3.o _).mono ?_;rintro e w7 ⟨rfl,rfl⟩;refine u _ _ (.inl (by omega)) ?_;clear u K
   try simp only[PT,Y1,Y2,Y3]
   refine JQ 10 ?_
   try simp only[PT,Y1,Y2,Y3]
   refine JD ?_;have k7:Z (ad [] W0 (w6.alloc (.cells #[I (kc p q),I (ai p.n q.n)] 3))):=bZ ((O.o.trans (ac.o.trans k5.o)).alloc _);clear F H H3 CP hx hy ac k5;generalize w6.alloc (.cells #[I (kc p q),I (ai p.n q.n)] 3)=w7 at*;by_cases hz:s=0
   ·subst hz;have b7:Z (T.cmp (a.dr (j+1)) (b.dr (j+1))=r):=bZ (by rw[<-a2.o,a6.o,xh]);go_wp2_with fail;go_roundw
    case rel=>exact⟨j+1,by omega,by go_num,b7,k7⟩
    case measure=>simp[intOf];omega
   have bk:Z (s=r):=bZ (by rw[<-a2.o,a6.o,ph hz]);have c5:(s !=0)=true:=by simp[hz]
   replace hz:=bZ hz;go_wp2_with fail;go_ret;exact⟨by rw[<-bk.o];rfl,bZ (k0.o.trans k7.o)⟩
  obtain rfl:j=M:=by omega
  have av:Z (orI (ai (n:Int) (m:Int)) (ai k l)=r):=bZ (an.o _ hM.o a2.o);have a0:E.cell? (U ga 0)=some (I k):=xa.cell 0;have b0:E.cell? (U gb 0)=some (I l):=xb.cell 0;have a1:E.cell? (U ga 1)=G A n c:=xa.cell 1;have b1:E.cell? (U gb 1)=G B m d:=xb.cell 1;have H3:Z (∀W:World,Calls Tryz.prog 220 #[.slice (V W.heap.size) 2 2] (W.alloc (.cells #[I (ai n m),I (ai k l)] 3)) fun e f=>e=.returned (I r)/\f=W.alloc (.cells #[I (ai n m),I (ai k l)] 3)):=bZ (fun W=>by rw[<-av.o];exact y9 W _ _);have k8:=bZ (fun o=>((k0.o.trans O.o).alloc o).drew);clear av xa xb;go_wp2_with fail;refine ae (S:=(fun f=>(f.cell? (U ga 0)=some (I k)/\f.cell? (U ga 1)=G A n c)/\f.cell? (U gb 0)=some (I l)/\f.cell? (U gb 1)=G B m d)) (n:=12) (by kernel_rfl) ?_;have F:(fun f=>(f.cell? (U ga 0)=some (I k)/\f.cell? (U ga 1)=G A n c)/\f.cell? (U gb 0)=some (I l)/\f.cell? (U gb 1)=G B m d) E.drew:=⟨⟨a0,a1⟩,b0,b1⟩;dsimp only at F;refine ord [0,1,2,3,4,5,7,8,9,10] ?_
  iterate 10 (refine tq F ?_;try simp only[PT,Y1,Y2,Y3])
  refine aB ?_;refine J1 6 fun K u=>?_;dsimp only[Y1,Y2,Y3];go_simp;refine(H1.o _ _ _).mono ?_;rintro e w6 ⟨rfl,rfl⟩;refine u _ _ (.inr F) ?_;clear u K
  try simp only[PT,Y1,Y2,Y3]
  refine J1 11 fun K u=>?_;dsimp only[Y1,Y2,Y3];go_simp;refine(H2.o _ _ _).mono ?_;rintro e w6 ⟨rfl,rfl⟩;refine u _ _ (.inr F) ?_;clear u K
  try simp only[PT,Y1,Y2,Y3]
  refine JQ 12 ?_
  try simp only[PT,Y1,Y2,Y3]
  refine J1 13 fun K u=>?_;dsimp only[Y1,Y2,Y3];go_simp;refine(H3.o E.drew).mono ?_;rintro e w7 ⟨rfl,rfl⟩;refine u _ _ (.inl (by omega)) ?_;clear u K
  try simp only[PT,Y1,Y2,Y3]
  refine JQ 14 ?_
  try simp only[PT,Y1,Y2,Y3]
  refine JD ?_;go_wp2_with fail;go_ret;exact⟨rfl,k8.o _⟩
theorem ad.of_below0 {w a:World} (h:Below w.heap.size w a):ad [] w a:=ad.of_below h (fun g b c=>by omega)
theorem dO:(Tryz.prog.info? 221).map (fun i=>(i.zero,i.size,i.bytes))=some (some (.agg #[I 0,I 0,I 0,I 0,.slice none 0 0]),5,56):=by kernel_rfl
theorem j9 {P:Program} {t:TypeId} {z:Option Value} {s b:Nat} (h:(P.info? t).map (fun i=>(i.zero,i.size,i.bytes))=some (z,s,b)):∃i,P.info? t=some i/\i.zero=z/\i.size=s/\i.bytes=b:=by
 cases a:P.info? t with
 | none=>simp[a] at h
 | some i=>
  simp only[a,EM,Option.some.injEq,Prod.mk.injEq] at h;exact⟨i,rfl,h.1,h.2.1,h.2.2⟩
def eZ (w:World) (e s n:Nat) (cs:List Value) (E:Ending) (a:World):Prop:=∃A c,E=.returned (.slice A n c)/\n<=c/\c<=maxLen/\Z (a.ownsRow w.heap.size e s (.slice A n c) n cs)/\Z (ad [] w a)
theorem ut (w:World) (C:Nat->Prop) (A:Option Addr) (n c:Nat) (cs:List Value) (f:cs.length=n*5) (L:n<=1000000) (p:∀u∈cs,u.oneCell'=true) (h:eM w C A cs):
 Calls Tryz.prog 218 #[.slice A n c] w (eZ w 221 5 n cs):=by
  cases A with
  | none=>
   have m:n=0:=by
    cases cs with
    | nil=>simp at f;omega
    | cons x r=>obtain⟨g,d,t,_⟩:=h.2 0 x rfl;cases t
   subst m;obtain rfl:cs=[]:=Dh (by omega);refine(Tryz.slices_Clone_nil 0 c w).mono ?_;rintro e K ⟨rfl,rfl⟩;exact⟨none,0,rfl,C9 _,by simp[maxLen],bZ (mg _ _ _ _),bZ (ad.refl _ _)⟩
  | some a=>
   obtain⟨b,d,J⟩:=a;obtain rfl:J=none:=h.1 _ rfl;obtain⟨E,v,D,B,q⟩:=j9 dO;refine(Tryz.slices_Clone E _ 5 56 v D B q rfl (by decide) (fun w=>by kernel_rfl) b d n c cs w f (by unfold maxLen;omega) (by omega) (fun j u y=>by
    obtain⟨g,o,e,_,s⟩:=h.2 j u y;cases e;exact s) p).mono ?_
   rintro e K ⟨M,rfl,i,_,z⟩;obtain⟨k,l,rfl,F,H⟩:=bS i;exact⟨k,l,rfl,F,H,bZ i,bZ (ad.of_below0 z)⟩
def kK (w:World) (t:T) (e:Ending) (a:World):Prop:=∃A c cs,e=.returned (.agg #[I t.con,.slice A t.pts.length c])/\t.pts.length<=c/\c<=maxLen/\
 Z (a.ownsRow w.heap.size 221 5 (.slice A t.pts.length c) t.pts.length cs)/\Z (Is a (fun g=>w.heap.size<=g/\(Value.slice A t.pts.length c).ownBlock≠some g) t.tr cs)/\Z (ad [] w a)
theorem kK.at_ {w a:World} {t:T} {A:Option Addr} {c:Nat} {cs:List Value} (h:a.ownsRow w.heap.size 221 5 (.slice A t.pts.length c) t.pts.length cs) (k:Is a (fun g=>w.heap.size<=g/\(Value.slice A t.pts.length c).ownBlock≠some g) t.tr cs):TAt a (fun g=>w.heap.size<=g) A t:=
 ⟨cs,dq h,k.mono (fun g _ h=>h.1)⟩
theorem kE (C:Nat->Prop):∀(t:T) (w:World) (A:Option Addr) (c:Nat),t.ok->t.pts.length<=1000000->t.wd<=1000000->TAt w C A t->Calls Tryz.prog 196 #[tmV t A c] w (kK w t):=by
 refine T.ind (fun t ih=>?_);intro w A c an bo aq hT;obtain⟨n,hn⟩:∃n,n=t.pts.length:=⟨_,rfl⟩;obtain⟨k,hk⟩:∃k,k=t.con:=⟨_,rfl⟩;rw[T.ok_iff] at an;rw[T.wd_iff] at aq;obtain⟨rs,hL,hI⟩:=hT;have bu:rs.length=n*5:=by rw[hI.len,T.tr_len,hn]
 have H0:Z (∀W,ad [] w W->Calls Tryz.prog 218 #[.slice A n c] W (eZ W 221 5 n rs)):=bZ (fun W hW=>
  ut _ C A n c rs bu (by omega) hI.one (hL.keep hW (by simp)))
 unfold tmV kK;rw[<-hn,<-hk];rw[<-hn] at bo;have J:=bZ hn;have bm:=bZ hk;replace an:=bZ an;replace aq:=bZ aq.2;replace hL:=bZ hL;replace hI:=bZ hI;replace ih:=bZ ih;clear hn hk;obtain⟨W0,aa⟩:∃W0,W0=(w.alloc (.cells #[I k,.slice A n c] 38)).alloc (.cells #[I 0,.slice none 0 0] 38):=⟨_,rfl⟩;obtain⟨r,b2⟩:∃g,g=w.heap.size:=⟨_,rfl⟩;obtain⟨P,b1⟩:∃g,g=w.heap.size+1:=⟨_,rfl⟩;obtain⟨t1,t2,t3⟩:=aX w 38 #[I k,.slice A n c] #[I 0,.slice none 0 0];rw[<-aa] at t1 t2 t3;rw[<-b1] at t2;rw[<-b2] at t1;have z1:W0.cell? (U r 1)=G A n c:=t1.cell 1;have b8:Z (W0.heap.size=w.heap.size+2):=bZ (by rw[aa];simp);replace t1:=bZ t1;replace t2:=bZ t2;replace t3:=bZ t3;go_enter Tryz.func196,Tryz.ntmps196;go_wp2_with fail;rw[<-b1,<-b2,<-aa];refine(H0.o W0 t3.o).mono ?_;rintro e w1 ⟨D,q,rfl,c7,c8,a4,ab⟩;have d1:=bZ (t1.o.keep ab.o (by simp));have d2:=bZ (t2.o.keep ab.o (by simp));have z:Z (r<W0.heap.size/\P<W0.heap.size/\r≠P/\w.heap.size<=r/\w.heap.size<=P):=bZ (by rw[b8.o];omega);have zc:w1.cell? (U r 1)=G A n c:=d1.o.cell 1;have zf:w1.frozen? (U r 1)=false:=d1.o.frozen 1;have bd:=bZ (d1.o.set_ 1 (.slice D n q));have bk:=bZ (d2.o.far (p:=(U r 1)) (fun h=>z.o.2.2.1 h.symm) (.slice D n q));have bq:=bZ (dE (X:=[r]) a4.o ((ad.refl [r] w1).setCell (p:=(U r 1)) (.inl (by simp)) (.slice D n q)) (fun g hg hm=>by
  have:=(cz a4.o hg).1;have h2:=z.o.1;rw[CZ.1 hm] at this;omega))
 have ac:=bZ ((t3.o.trans ab.o).setCell (p:=(U r 1)) (.inr z.o.2.2.2.1) (.slice D n q));clear aa b2 b1 z1 H0 t1 t2 a4 d1 d2 ab;go_wp2_with fail;clear zc zf;generalize w1.setCell (U r 1) (.slice D n q)=w2 at*;go_loopw [12] (fun i wr=>∃(j:Nat) (f:List Value),j<=n/\i=I j/\Z (f.length=j*5)/\Z (wr.ownsRow W0.heap.size 221 5 (.slice D n q) n (f++rs.drop (j*5)))/\
  Z (Is wr (fun g=>W0.heap.size<=g/\(Value.slice D n q).ownBlock≠some g) (cat Pt.tr (t.pts.take j)) f)/\Z (Blk wr r 38 #[I k,.slice D n q])/\Z (Blk wr P 38 #[I 0,.slice none 0 0])/\Z (ad [] w wr)) (fun i _=>n - (intOf i).toNat)
 case atStart=>exact⟨0,[],C3 _,rfl,bZ rfl,bq,bZ rfl,bd,bk,ac⟩
 obtain⟨j,f,hj,rfl,s,ho,hN,E,O,bn⟩:=hrel;obtain⟨L,cm⟩:∃x,x=wr:=⟨_,rfl⟩;subst cm;clear bd bk bq ac;by_cases cc:j<n
 ·obtain⟨p,hp⟩:=aI (l:=t.pts) (j:=j) (by rw[<-J.o];exact cc);obtain⟨rc,b7,ax⟩:=Is.cat_at Pt.tr_len (by have:=hI.o;rw[T.tr_eq] at this;exact this) hp;obtain⟨oA,on,N,rfl,cd,ck,am⟩:=bL.1 b7;obtain⟨d,rfl⟩:=dW ho.o (by omega);obtain⟨cq,co⟩:=cz ho.o (g:=d) rfl;have H:=rU (a:=j*5) (k:=5) rfl ax;have cr:(j:Int)<(n:Int):=by omega
  have wj:IntKind.i64.wrap ((j:Int)+1)=(j:Int)+1:=C0 _ (by omega);have F:∀i u,(ptV p oA on N)[i]? =some u->L.cell? (U d (j*5+i))=some u:=fun i u hi=>by
   have c9:i<5:=(CV.1 hi).1;rw[ho.o.cellAt _ (by omega),H,Dv (by rw[s.o];omega),s.o,show j*5+i - j*5=i by omega,DC (by simpa [ptV] using c9)];exact hi
  have c0:L.cell? (U d (j*5))=some (I p.n):=F 0 _ rfl;have c1:L.cell? (U d (j*5+1))=some (I p.kd):=F 1 _ rfl;have c2:L.cell? (U d (j*5+2))=some (I p.v):=F 2 _ rfl;have c3:L.cell? (U d (j*5+3))=some (I p.b):=F 3 _ rfl;have c4:L.cell? (U d (j*5+4))=G oA on N:=F 4 _ rfl;have ar:Z (d≠r/\d≠P):=bZ (by have:=z.o;omega);obtain⟨g4,b0⟩:∃g,g=L.heap.size:=⟨_,rfl⟩;obtain⟨B,a6⟩:∃x,x=L.alloc (.cells #[I p.n,I p.kd,I p.v,I p.b,.slice oA on N] 221):=⟨_,rfl⟩;have kb:ad [] L B:=by rw[a6];exact(ad.refl [] L).alloc _
  have b4:Blk B g4 221 #[I p.n,I p.kd,I p.v,I p.b,.slice oA on N]:=by rw[a6,b0];exact Blk.new L 221 _
  have b5:=bZ (aW ho.o kb);have bb:=bZ (hN.o.keep kb (by simp));have M:=bZ (E.o.keep kb (by simp));have R:=bZ (O.o.keep kb (by simp));have a3:=bZ (bn.o.trans kb);rw[H] at b5;replace H:=bZ H;replace b4:=bZ b4;replace kb:=bZ kb;have cl:=bZ (an.o p (CW hp)).2;have bz:=bZ (cN hp);have bt:=bZ (CW hp);have ak:Z (d<B.heap.size/\g4<B.heap.size/\r<B.heap.size/\P<B.heap.size):=bZ ⟨by have:=kb.o.size;omega,b4.o.lt,M.o.lt,R.o.lt⟩;by_cases h2:p.kd=2
  ·obtain⟨rfl,h,o,pA,pc,rfl,c5,a0,a1,ca,cb,bc⟩:=am.2 h2;replace a0:=a3.o.cellEq a0 (by simp);replace a1:=a3.o.cellEq a1 (by simp);have e1:B.cell? (U r 1)=G (V d) n q:=M.o.cell 1;have e4:B.cell? (U g4 4)=G (some (U h o)) 1 N:=b4.o.cell 4;have ao:p.of.ok/\p.of.wd<=1000000:=⟨by rcases cl.o with h | h;rw[h.2.2.2];trivial;exact h.2.2.2.2.2.1,aq.o p bt.o⟩;have HC:=bZ (ih.o p bt.o B.drew pA pc ao.1 (aA ao.2) ao.2 (bc.keep0 a3.o.drew));unfold tmV kK at HC;have cs:Z ((f++(ptV p (some (U h o)) 1 N++rs.drop (j*5+5))).length=n*5):=bZ (by rw[<-H.o,CU,s.o,Da,bu];omega);clear F am bc ca cb c5 ao ax b7 H ho hN E O;replace h2:=bZ h2;go_wp2_with fail;rw[<-a6,<-b0];clear c0 c1 c2 c3 c4 a6 b0;refine ae (S:=(fun w'=>(w'.cell? (U r 1)=G (V d) n q/\w'.cell? (U g4 4)=G (some (U h o)) 1 N)/\w'.cell? (U h o)=some (I p.of.con)/\w'.cell? (U h (o+1))=G pA p.of.pts.length pc)) (n:=9) (by kernel_rfl) ?_;have a9:Z (∀W',ad [] B W'->(fun w'=>(w'.cell? (U r 1)=G (V d) n q/\w'.cell? (U g4 4)=G (some (U h o)) 1 N)/\w'.cell? (U h o)=some (I p.of.con)/\w'.cell? (U h (o+1))=G pA p.of.pts.length pc) W'):=bZ (fun W' h=>⟨⟨h.cellEq e1 (by simp),h.cellEq e4 (by simp)⟩,h.cellEq a0 (by simp),h.cellEq a1 (by simp)⟩);have HS:=a9.o B.drew (ad.refl [] B).drew;dsimp only at HS;clear e1 e4 a0 a1;refine ord [0,1,2,3,4,5,6] ?_
   iterate 7 (refine tq HS ?_;try simp only[PT,Y1,Y2,Y3])
   refine aB ?_;refine J1 7 fun K hK=>?_;dsimp only[Y1,Y2,Y3];go_simp;refine HC.o.mono ?_;rintro e m ⟨Q,c2,cp,rfl,m1,m2,o2,i2,k5⟩;replace k5:=bZ ((ad.refl [] B).drew.trans k5.o);have k6:=bZ (k5.o.alloc (.cells #[I p.of.con,.slice Q p.of.pts.length c2] 38));replace HS:=a9.o m k5.o;have av:=a9.o _ k6.o;dsimp only at HS av;have b3:=bZ (aW b5.o k6.o);have y4:(m.alloc (.cells #[I p.of.con,.slice Q p.of.pts.length c2] 38)).cell? (U d (j*5+4))=G (some (U h o)) 1 N:=by
    rw[b3.o.cellAt _ (by omega),Dv (by rw[s.o];omega),s.o,show j*5+4 - j*5=4 by omega];rfl
   have yf:(m.alloc (.cells #[I p.of.con,.slice Q p.of.pts.length c2] 38)).frozen? (U d (j*5+4))=false:=b3.o.frozenAt _;refine hK _ _ (.inr HS) ?_;clear hK K
   try simp only[PT,Y1,Y2,Y3]
   refine J1 8 fun K hK=>?_;dsimp only[Y1,Y2,Y3];go_simp;replace HS:=av;refine hK _ _ (.inr HS) ?_;clear hK K
   try simp only[PT,Y1,Y2,Y3]
   refine JQ 9 ?_
   try simp only[PT,Y1,Y2,Y3]
   refine JQ 10 ?_
   try simp only[PT,Y1,Y2,Y3]
   refine JQ 11 ?_
   try simp only[PT,Y1,Y2,Y3]
   refine JD ?_;have b9:=bZ ((M.o.keep k6.o (by simp)).far (p:=(U d (j*5+4))) (fun e=>ar.o.1 e.symm) (.slice (V m.heap.size) 1 1));have ba:=bZ ((R.o.keep k6.o (by simp)).far (p:=(U d (j*5+4))) (fun e=>ar.o.2 e.symm) (.slice (V m.heap.size) 1 1));have ac:Z (ad [] w ((m.alloc (.cells #[I p.of.con,.slice Q p.of.pts.length c2] 38)).setCell (U d (j*5+4)) (.slice (V m.heap.size) 1 1))):=
    bZ ((a3.o.trans k6.o).setCell (p:=(U d (j*5+4))) (.inr (by have:=z.o;show w.heap.size<=d;omega)) _)
   have kA:ad [d] (m.alloc (.cells #[I p.of.con,.slice Q p.of.pts.length c2] 38)) ((m.alloc (.cells #[I p.of.con,.slice Q p.of.pts.length c2] 38)).setCell (U d (j*5+4)) (.slice (V m.heap.size) 1 1)):=(ad.refl [d] _).setCell (.inl (by simp)) _;have ap:=(b3.o.stored (j*5+4) (.slice (V m.heap.size) 1 1)).1;have au:(f++(ptV p (some (U h o)) 1 N++rs.drop (j*5+5))).set (j*5+4) (.slice (V m.heap.size) 1 1)=(f++ptV p (V m.heap.size) 1 1)++rs.drop ((j+1)*5):=by
    rw[EL _ _ (by rw[s.o];omega),s.o,show j*5+4 - j*5=4 by omega,show (j+1)*5=j*5+5 by omega,Dd];rfl
   rw[au] at ap;replace ap:=bZ ap;have bx:Z (B.heap.size<=m.heap.size):=bZ k5.o.size;have a2:Z (Is ((m.alloc (.cells #[I p.of.con,.slice Q p.of.pts.length c2] 38)).setCell (U d (j*5+4)) (.slice (V m.heap.size) 1 1)) (fun g=>W0.heap.size<=g/\(Value.slice (V d) n q).ownBlock≠some g) (cat Pt.tr (t.pts.take (j+1))) (f++ptV p (V m.heap.size) 1 1)):=bZ (by
    have hb:=Blk.new m 38 #[I p.of.con,.slice Q p.of.pts.length c2];have c6:=(kK.at_ o2.o i2.o).keep0 ((ad.refl [] m).alloc (.cells #[I p.of.con,.slice Q p.of.pts.length c2] 38));have b6:Is (m.alloc (.cells #[I p.of.con,.slice Q p.of.pts.length c2] 38)) (fun g=>W0.heap.size<=g/\d<g) p.tr (ptV p (V m.heap.size) 1 1):=
     bL.2 ⟨_,1,1,rfl,C9 _,by simp[maxLen],fun h=>absurd h2.o h,fun _=>⟨rfl,m.heap.size,0,Q,c2,rfl,⟨by have:=bx.o;have:=ak.o;omega,by have:=bx.o;have:=ak.o;omega⟩,hb.cell 0,hb.cell 1,m1,m2,
      c6.mono (fun g _ (hg:B.heap.size<=g)=>⟨by have:=ak.o;omega,by have:=ak.o;omega⟩)⟩⟩
    rw[bz.o];refine Is.snoc ((bb.o.keep k6.o (by simp)).keep kA (fun y hy hc=>?_)) ((b6.keep kA (fun y hy hc=>?_)).mono (fun g _ hg=>⟨hg.1,fun e=>?_⟩))
    ·rw[CZ.1 hy] at hc;exact hc.2 rfl
    ·rw[CZ.1 hy] at hc;omega
    have h9:d<g:=hg.2;have h8:d=g:=by injection e
    omega)
   have Y:Z ((f++ptV p (V m.heap.size) 1 1).length=(j+1)*5):=bZ (by rw[CU,s.o];simp[ptV];omega);clear HS av a9 y4 yf kA au;go_wp2_with fail;go_roundw
   case rel=>exact⟨j+1,_,by omega,by go_num,Y,ap,a2,b9,ba,ac⟩
   case measure=>simp[intOf];omega
  obtain⟨rfl,bs⟩:=am.1 h2;have a2:Z (Is B (fun g=>W0.heap.size<=g/\(Value.slice (V d) n q).ownBlock≠some g) (cat Pt.tr (t.pts.take (j+1))) (f++ptV p oA 0 N)):=bZ (by
   rw[bz.o];exact bb.o.snoc (bL.2 ⟨oA,0,N,rfl,cd,ck,fun _=>⟨rfl,bs⟩,fun h=>absurd h h2⟩))
  have Y:Z ((f++ptV p oA 0 N).length=(j+1)*5):=bZ (by rw[CU,s.o];simp[ptV];omega);have br:Z (B.ownsRow W0.heap.size 221 5 (.slice (V d) n q) n ((f++ptV p oA 0 N)++rs.drop ((j+1)*5))):=bZ (by rw[Dd,show (j+1)*5=j*5+5 by omega];exact b5.o);clear F am ax b7 H ho hN E O h2 bs;go_wp2_with fail;rw[<-a6];go_roundw
  case rel=>exact⟨j+1,_,by omega,by go_num,Y,br,a2,M,R,a3⟩
  case measure=>simp[intOf];omega
 obtain rfl:j=n:=by omega
 have y0:L.cell? (U r 0)=some (I k):=E.o.cell 0;have y1:L.cell? (U r 1)=G D j q:=E.o.cell 1;have x:=O.o.cell;have xf:=O.o.frozen;have bf:=(O.o.set_ 0 (I k)).set_ 1 (.slice D j q);have e0:=bf.cell 0;have e1:=bf.cell 1;have kf:=((ad.refl [P] L).setCell (p:=(U P 0)) (.inl (by simp)) (I k)).setCell (p:=(U P 1)) (.inl (by simp)) (.slice D j q);have bp:(Value.slice D j q).ownBlock≠some P:=fun h=>by have:=(cz ho.o h).1;have:=z.o.2.1;omega
 have a5:Z (kK w t (.returned (.agg #[I k,.slice D j q])) ((L.setCell (U P 0) (I k)).setCell (U P 1) (.slice D j q))):=bZ (by
  refine⟨D,q,f,by rw[bm.o,J.o],by rw[<-J.o];exact c7,c8,bZ ?_,bZ ?_,bZ ((bn.o.nil.trans kf).mono (fun y hy=>.inr (by rw[CZ.1 hy];exact z.o.2.2.2.2)))⟩
  ·rw[<-J.o];have h1:=ho.o;rw[DB (by omega),DA] at h1;exact jY (dE h1 kf (fun g hg hm=>bp (by rw[hg,CZ.1 hm]))) (by rw[b8.o];omega)
  rw[<-J.o,T.tr_eq];have h1:=hN.o;rw[C6 (by rw[<-J.o];exact C9 _)] at h1;exact(h1.keep kf (fun y hy h=>by rw[CZ.1 hy] at h;have:=z.o.2.1;omega)).mono (fun g _ h=>⟨by have:=b8.o;omega,h.2⟩))
 unfold kK at a5;rw[<-J.o,<-bm.o] at a5;clear bf kf bp;replace E:=bZ E;go_wp2_with fail;refine bodyPost_ret (v:=.agg #[I k,.slice D j q]) (by simp[results,Tryz.results196,go_sem,e0,e1]) rfl ?_;exact a5.o
end Go.Proofs.YtldmkbhgdbafhaaGreat
