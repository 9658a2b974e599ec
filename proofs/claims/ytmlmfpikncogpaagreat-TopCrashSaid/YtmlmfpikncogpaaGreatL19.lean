import Derived.Test.YtmlmfpikncogpaaGreatL18
namespace Go.Proofs.YtmlmfpikncogpaaGreat
open Go.RowKit
set_option linter.unusedSimpArgs false
set_option linter.unusedVariables false
set_option maxRecDepth 100000
set_option maxHeartbeats 16000000
def gT (S:Bool) (es a:List Ent) (k:Value) (fd:Bool) (old:Value):Prop:=
 (∀x∈a,x∈es)/\(fd=true->∃x∈es,old=x.2)/\(S=true->Asc es->a=jT k es/\fd=dw k es/\(fd=true->gj k es=some old))
def sh (S:Bool) (T:BTy) (tr:TypeId) (w:World) (bt:Nat) (es:List Ent) (F:List Nat) (n:Int) (k:Value) (e:Ending) (w':World):Prop:=
 ∃old fd a b,e=.returned (.tuple #[old,.bool fd])/\Z (aR T tr w' bt a b (if fd then wrap64 (n - 1) else n))/\Z (aa F w w')/\Z (∀x∈b,x∈F\/w.heap.size<=x)/\Z (gT S es a k fd old)
section
variable {S:Bool} {T:BTy} {tr:TypeId} {w w1:World} {bt root h m m1:Nat} {es es1:List Ent} {Fn F1:List Nat} {k:Value} {fd:Bool} {old:Value} {n:Int}
theorem oS (d:Blk w bt tr #[ptr root,I 16,I n]) (b:bt∉Fn) (e:m<=15) (a:ef S T w h root m es Fn k fd old w1 m1 es1 F1) (i:h=0\/1<=m1):
 aR T tr w1 bt es1 (bt::F1) n/\aa (bt::Fn) w w1/\(∀x∈bt::F1,x∈bt::Fn\/w.heap.size<=x):=by
  have f:=a.lo;have g:=d.lt;refine⟨⟨root,h,m1,F1,d.keep a.kp b,a.vw,i,by omega,a.nd,fun e=>?_,rfl⟩,a.kp.mono (fun x c=>.inl (by simp[c])),fun x c=>?_⟩
  ·rcases a.nw _ e with h | h
   ·exact b h
   omega
  rcases Db.1 c with rfl | c
  ·exact .inl (by simp)
  exact(a.nw x c).imp_left (fun h=>by simp[h])
theorem vp (u:Blk w bt tr #[ptr root,I 16,I n]) (j:bt∉Fn) (f:ef S T w (h+1) root m es Fn k fd old w1 m1 es1 F1) (Q:m1=0):
 ∃(c:Kid) (i q:Nat),w1.cell? (U root 2)=G (V i) 1 q/\w1.cell? (U i 0)=some (ptr c.1)/\∀w2,w2=w1.setCell (U bt 0) (ptr c.1)->∃F',aR T tr w2 bt es1 F' n/\aa (bt::Fn) w w2/\(∀x∈F',x∈bt::Fn\/w.heap.size<=x):=by
  have E:=u.lt;have R:=f.kp.size;have r:=u.keep f.kp j;obtain⟨en,kids,L,N,C,rfl,s⟩:=f.vw;obtain rfl:en=[]:=Dh (by omega);rcases s with ⟨O,_⟩ | ⟨A,P,v,rfl,D⟩
  ·omega
  obtain rfl:h=A:=by omega
  obtain⟨c,rfl⟩:∃c,kids=[c]:=by
   cases kids with
   | nil=>simp at v
   | cons c K=>cases K with
    | nil=>exact⟨c,rfl⟩
    | cons d K=>simp at v
  obtain⟨H,W,J,X,M,q,B,_,_,l,rfl⟩:=C;obtain⟨i,rfl⟩:=aV l (by simp);have b:bt∉(root::(fb H++(fb J++fb (V i))))++af [c]:=fun a=>by
   rcases f.nw _ a with h | h
   ·exact j h
   omega
  have e:af [c]=c.2.2.2:=by simp[af]
  rw[e] at b;refine⟨c,i,q,B.cell 2,aj l (by simp[ptr]),fun w2 o=>?_⟩;have z:aa [bt] w1 w2:=by rw[o];exact(aa.refl [bt] w1).setCell (p:=(U bt 0)) (.inl (by simp)) _
  have t:=D c (by simp);refine⟨bt::c.2.2.2,⟨c.1,h,c.2.1,c.2.2.2,?_,?_,.inr (by omega),by omega,?_,fun a=>b (Dg _ a),rfl⟩,?_,fun x g=>?_⟩
  ·rw[o];simpa using r.set_ 0 (ptr c.1)
  ·exact(t.1.keep z _ _ _ _ _ (fun y F a=>by rw[CZ.1 F] at a;exact b (Dg _ a))).toView
  ·have:=f.nd;rw[e] at this;exact(Dp.1 this).2.1
  ·exact(f.kp.mono (fun x g=>.inl (by simp[g]))).trans (z.mono (fun x g=>.inl (by rw[CZ.1 g];simp)))
  rcases Db.1 g with rfl | g
  ·exact .inl (by simp)
  exact(f.nw x (by rw[e];exact Dg _ g)).imp_left (fun h=>by simp[h])
end
theorem tT:(∀(w:World) (bt:Nat) (es:List Ent) (F:List Nat) (n:Int) (z:Int) (K:aR tyI 204 w bt es F n) (f:∀x∈es,cX x.1/\dk x.2),Calls Tryz.prog 134 #[ptr bt,I z] w (sh true tyI 204 w bt es F n (I z)))/\
 (∀(w:World) (bt:Nat) (es:List Ent) (F:List Nat) (n:Int) (z:ByteArray) (K:aR tyS 250 w bt es F n) (f:∀x∈es,dP x.1/\dW x.2),Calls Tryz.prog 135 #[ptr bt,Value.string z] w (sh false tyS 250 w bt es F n (Value.string z))):=by
  refine⟨?_,?_⟩;have a:=trivial;rotate_left;rotate_left
  all_goals
   intro w bt es F n z K f;obtain⟨root,h,m,Fn,r,E,D,L,C,b,rfl⟩:=K.out_
   first | (have:=a;have P:=xD.1 bt (ptr root) (I n) h z w root m es Fn r E C b L D f) | have P:=xD.2 bt (ptr root) (I n) h z w root m es Fn r E C b L D f
   have z0:=r.cell 0;replace r:=bZ r;replace b:=bZ b;replace D:=bZ D;clear K E C f;unfold ptr at P z0 ⊢
   first | (have:=a;go_enter Tryz.func134,Tryz.ntmps134) | go_enter Tryz.func135,Tryz.ntmps135
   go_wp2_with fail;refine P.mono ?_;clear P;rintro e w1 ⟨old,fd,m1,es1,F1,rfl,k⟩;have H:=bZ (r.o.keep k.o.kp b.o);have t0:w1.cell? (U bt 0)=some (.pointer (V root)):=H.o.cell 0;have t2:=H.o.cell 2;have tf:=H.o.frozen
   first | (have:=a;have B:Z (gT true es es1 (I z) fd old):=bZ ⟨k.o.sub,k.o.fdm,k.o.ord⟩) | have B:Z (gT false es es1 (Value.string z) fd old):=bZ ⟨k.o.sub,k.o.fdm,k.o.ord⟩
   have Y:=k.o.lo;obtain⟨M,N,q0⟩:∃M N,w1.cell? (U root 0)=G M m1 N:=by
    obtain⟨A,_,_,u,⟨M,N,_,_,_,_,X,_⟩,_⟩:=k.o.vw;refine⟨M,N,?_⟩;have:=X.cell 0;rw[Df,<-u] at this;exact this
   by_cases S:m1=0
   ·cases h with
    | zero=>
     obtain⟨A,g,Q,u,p,_,s⟩:=k.o.vw;have t:g=[]:=by
      rcases s with ⟨_,J,_⟩ | ⟨_,J,_⟩
      ·exact J
      omega
     subst t
     first | (have:=a;have d:=bM.1 w1 root _ _ _ _ p (by simp)) | have d:=bM.2 w1 root _ _ _ _ p (by simp)
     unfold ptr at d;have R:=oS r.o b.o L k.o (.inl rfl);have l:=bZ R.1;have q:=bZ R.2.1;have y:=bZ R.2.2;subst S;clear R k r D b H p s u;go_wp2_with fail;refine d.mono ?_;rintro e w' ⟨rfl,rfl⟩;clear d;cases fd with
     | false=>
      go_wp2_with fail
      first | (have:=a;refine bodyPost_ret (v:=.tuple #[old,.bool false]) (by simp[results,Tryz.results134,go_sem]) rfl ?_) | refine bodyPost_ret (v:=.tuple #[old,.bool false]) (by simp[results,Tryz.results135,go_sem]) rfl ?_
      exact⟨old,false,_,_,rfl,l,q,y,B⟩
     | true=>
      go_wp2_with fail
      first | (have:=a;refine bodyPost_ret (v:=.tuple #[old,.bool true]) (by simp[results,Tryz.results134,go_sem]) rfl ?_) | refine bodyPost_ret (v:=.tuple #[old,.bool true]) (by simp[results,Tryz.results135,go_sem]) rfl ?_
      exact⟨old,true,_,_,rfl,bZ (l.o.more q.o _).1,bZ (l.o.more q.o _).2,y,B⟩
    | succ h=>
     obtain⟨A,g,Q,u,p,_,s⟩:=k.o.vw;have t:g.length=A.length+1:=by
      rcases s with ⟨J,_⟩ | ⟨_,_,J,_⟩
      ·omega
      exact J
     first | (have:=a;have d:=bM.1 w1 root _ _ _ _ p (by rw[Df,t];omega)) | (have d:=bM.2 w1 root _ _ _ _ p (by rw[Df,t];omega))
     rw[Df,show decide (g.length=0)=false from decide_eq_false (by omega)] at d;unfold ptr at d;obtain⟨c,gx,cc,g1,W,i⟩:=vp r.o b.o k.o S;replace i:=bZ i;unfold ptr at W i;subst S;clear k r D b p s u t;go_wp2_with fail;refine d.mono ?_;rintro e w' ⟨rfl,rfl⟩;clear d;obtain⟨F',l,q,y⟩:=i.o _ rfl;have u2:(w1.setCell (U bt 0) (.pointer (V c.1))).cell? (U bt 2)=some (I n):=by
      obtain⟨r3,_,_,_,O,_⟩:=l.out_;exact O.cell 2
     have a1:∀j,(w1.setCell (U bt 0) (.pointer (V c.1))).frozen? (U bt j)=false:=by
      obtain⟨r3,_,_,_,O,_⟩:=l.out_;exact O.frozen
     replace l:=bZ l;replace q:=bZ q;replace y:=bZ y;clear i H;cases fd with
     | false=>
      go_wp2_with fail
      first | (have:=a;refine bodyPost_ret (v:=.tuple #[old,.bool false]) (by simp[results,Tryz.results134,go_sem]) rfl ?_) | refine bodyPost_ret (v:=.tuple #[old,.bool false]) (by simp[results,Tryz.results135,go_sem]) rfl ?_
      exact⟨old,false,_,_,rfl,l,q,y,B⟩
     | true=>
      go_wp2_with fail
      first | (have:=a;refine bodyPost_ret (v:=.tuple #[old,.bool true]) (by simp[results,Tryz.results134,go_sem]) rfl ?_) | refine bodyPost_ret (v:=.tuple #[old,.bool true]) (by simp[results,Tryz.results135,go_sem]) rfl ?_
      exact⟨old,true,_,_,rfl,bZ (l.o.more q.o _).1,bZ (l.o.more q.o _).2,y,B⟩
   have a0:((m1:Int)==0)=false:=by simp;omega
   have T:¬(m1:Int)=0:=by omega
   have R:=oS r.o b.o L k.o (.inr (by omega));have l:=bZ R.1;have q:=bZ R.2.1;have y:=bZ R.2.2;clear R k r D b H;cases fd with
   | false=>
    go_wp2_with fail
    first | (have:=a;refine bodyPost_ret (v:=.tuple #[old,.bool false]) (by simp[results,Tryz.results134,go_sem]) rfl ?_) | refine bodyPost_ret (v:=.tuple #[old,.bool false]) (by simp[results,Tryz.results135,go_sem]) rfl ?_
    exact⟨old,false,_,_,rfl,l,q,y,B⟩
   | true=>
    go_wp2_with fail
    first | (have:=a;refine bodyPost_ret (v:=.tuple #[old,.bool true]) (by simp[results,Tryz.results134,go_sem]) rfl ?_) | refine bodyPost_ret (v:=.tuple #[old,.bool true]) (by simp[results,Tryz.results135,go_sem]) rfl ?_
    exact⟨old,true,_,_,rfl,bZ (l.o.more q.o _).1,bZ (l.o.more q.o _).2,y,B⟩
theorem Ap {T:BTy} {w:World} {h i:Nat} {en:List Ent} {kids:List Kid} {es:List Ent} {k:Value} {e:Ent} (c:bo T w h en kids es) (b:Asc es) (d:en[i]? =some e) (a:kI e=iv k):dw k es=true/\gj k es=some e.2:=by
 obtain⟨P,R,rfl⟩:=List.append_of_mem (c.en_sub e (CW d));exact⟨nN a,nO b a⟩
theorem BM {en:List Ent} {k:Value} {i:Nat} (f:eK true (en.map (·.1)) k i false) (b:Asc en):dw k en=false:=by
 obtain⟨c,d⟩:=dR f rfl b;obtain⟨h,j⟩:=jo c b (fun e a g=>by simpa using d.2 ⟨e,a,g⟩);refine jQ (fun e a=>?_);rw[<-Du i en] at a;rcases CX.1 a with a | a
 ·have:=h e a;omega
 have:=j e a;omega
def li (es:List Ent) (k:Value) (b:Bool) (v:Value):Prop:=(b=true->∃x∈es,v=x.2)/\(Asc es->b=dw k es/\(b=true->gj k es=some v))/\(b=false->v=.slice none 0 0)
def AX (w:World) (es:List Ent) (k:Value) (e:Ending) (w':World):Prop:=∃v b,e=.returned (.tuple #[v,.bool b])/\Z (li es k b v)/\w=w'
theorem Ab (w:World) (bt:Nat) (es:List Ent) (F:List Nat) (n:Int) (b:aR tyI 204 w bt es F n):Calls Tryz.prog 80 #[ptr bt] w fun e w'=>e=.returned (I n)/\w=w':=by
 obtain⟨c,_,_,_,a,_⟩:=b.out_;have z:=a.cell 2;clear a b;unfold ptr at z ⊢;go_enter Tryz.func80,Tryz.ntmps80;go_wp2_with fail;go_ret;exact⟨rfl,rfl⟩
theorem dy (w:World) (bt:Nat) (es:List Ent) (F:List Nat) (n:Int) (r:Int) (hT:aR tyI 204 w bt es F n) (f:∀x∈es,cX x.1/\dk x.2):Calls Tryz.prog 81 #[ptr bt,I r] w (AX w es (I r)):=by
 obtain⟨root,h,m,Fn,hb,a5,hr,hm,b4,a9,rfl⟩:=hT.out_;have z0:=hb.cell 0;have a4:=bZ (a5.rep hr);replace f:=bZ f;clear hT a5 b4 hb a9 hr;unfold ptr at z0 ⊢;go_enter Tryz.func81,Tryz.ntmps81;go_wp2_with fail;go_loopw [6,7,8] (fun xv _ _ wr=>∃(q h' y:Nat) (l:List Ent) (F':List Nat),xv=.pointer (V q)/\wr=w/\Z (Rep tyI w h' q y l F')/\y<=15/\Z (∀x∈l,x∈es)/\Z (Asc es->Asc l/\dw (I r) es=dw (I r) l/\gj (I r) es=gj (I r) l)) (fun xv _ _ _=>yx tyI w xv)
 case atStart=>exact⟨root,h,m,es,Fn,rfl,rfl,a4,hm,bZ (fun x S=>S),bZ (fun h=>⟨h,rfl,rfl⟩)⟩
 obtain⟨q,h',y,l,F',rfl,rfl,a3,b9,C,P⟩:=hrel;obtain⟨en,kids,F0,d,hN,hF,a⟩:=a3.o.view;have a:bo tyI wr h' en kids l:=a;have A:∀x∈en,cX x.1/\dk x.2:=fun x S=>f.o x (C.o x (a.en_sub x S));have fk:∀x∈en.map (·.1),cX x:=fun v W=>by obtain⟨x,S,rfl⟩:=Dt.1 W;exact(A x S).1
 have p:=kQ.1 wr q (en.map (·.1)) (en.map (·.2)) (kids.map (·.1)) F0 r hN fk (by simp;omega);have hd:=a.dims;have b:=bM.1 wr q (en.map (·.1)) (en.map (·.2)) (kids.map (·.1)) F0 hN (by rw[Df];omega);rw[Df] at b;unfold ptr at p b;obtain⟨kA,kc,vA,vc,cA,cc,T,hk,W,s,_⟩:=hN;have x1:=T.cell 1;have x2:=T.cell 2;replace x1:wr.cell? (U q 1)=G vA y vc:=by rw[d];have:=x1;rw[Df,Df,Df] at this;exact this
 have D:wr.ownsRow 0 62 1 (.slice vA y vc) y (en.map (·.2)):=by have:=W;unfold wT at this;rw[Df,<-d] at this;exact this
 go_wp2_with fail;refine p.mono ?_;rintro e w' ⟨i,ok,rfl,hf,rfl⟩;clear p;have hi:i<=y:=by have:=hf.o.1;rw[Df,<-d] at this;exact this
 cases ok with
 | true=>
  have hi:i<y:=by have:=hf.o.2.1 rfl;rw[Df,<-d] at this;exact this
  obtain⟨gv,an⟩:=aV D (by omega);subst an;obtain⟨e0,g⟩:∃e,en[i]? =some e:=⟨_,CT (by omega)⟩;obtain⟨a6,a7⟩:=e0;obtain⟨_,X,z,Y,Q⟩:=A _ (CW g);have Q:a7=.slice X z Y:=Q;subst Q;have b6:=aj D (j:=i) (u:=.slice X z Y) (by rw[De,g];rfl);have ar:(i:Int)<(y:Int):=by omega
  have B:Z (li es (I r) true (.slice X z Y)):=bZ ⟨fun _=>⟨(a6,.slice X z Y),C.o _ (a.en_sub _ (CW g)),rfl⟩,fun ha=>by
   obtain⟨t,J,L⟩:=P.o ha;have a8:Asc en:=by
    rcases a with ⟨_,_,h3⟩ | ⟨_,_,h2,h3,_⟩
    ·rw[<-h3];exact t
    rw[h3] at t;exact t.sublist (eS h2)
   obtain⟨c1,c2⟩:=dR hf.o rfl a8;obtain⟨e',a0,b0⟩:=c2.1 rfl;rw[g] at a0;cases a0;obtain⟨d1,d2⟩:=Ap a t g b0;exact⟨by rw[J,d1],fun _=>by rw[L,d2]⟩,(fun h=>by cases h)⟩
  clear b a A fk T hk W s D hd x2 d;go_wp2_with fail;refine bodyPost_ret (v:=.tuple #[.slice X z Y,.bool true]) (by simp[results,Tryz.results81,go_sem]) rfl ?_;exact⟨_,true,rfl,B,rfl⟩
 | false=>
  rcases a with ⟨h0,b1,ac⟩ | ⟨h1,b7,E,g,a2⟩
  ·subst b1;subst ac;have B:Z (li es (I r) false (.slice none 0 0)):=bZ ⟨(fun h=>by cases h),fun ha=>by
    obtain⟨t,J,L⟩:=P.o ha;exact⟨by rw[J,BM hf.o t],(fun h=>by cases h)⟩,fun _=>rfl⟩
   rw[show decide ((([]:List Kid)).length=0)=true from rfl] at b;clear A fk T hk W s D hd x1 x2 d;go_wp2_with fail;refine b.mono ?_;rintro e w' ⟨rfl,rfl⟩;clear b;go_wp2_with fail;refine bodyPost_ret (v:=.tuple #[.slice none 0 0,.bool false]) (by simp[results,Tryz.results81,go_sem]) rfl ?_;exact⟨_,false,rfl,B,rfl⟩
  obtain⟨c,K,M,la,lb,lc⟩:=lJ E (i:=i) (by omega);have O:c∈kids:=CW M;obtain⟨H,b8,b5⟩:=a2 c O;have N:(kids.map (·.1)).length=y+1:=by rw[Df,E,<-d]
  rw[N] at s;replace x2:wr.cell? (U q 2)=G cA (y+1) cc:=by have:=T.cell 2;rw[N] at this;exact this
  obtain⟨gx,ap⟩:=aV s (by omega);subst ap;have xc:=aj s (j:=i) (u:=.pointer (V c.1)) (by rw[De,De,M];rfl);have ar:(i:Int)<(y:Int)+1:=by omega
  have R:Z (∀x∈c.2.2.1,x∈es):=bZ (fun x S=>C.o x (by rw[g];exact dC E O S));have a1:Z (Asc es->Asc c.2.2.1/\dw (I r) es=dw (I r) c.2.2.1/\gj (I r) es=gj (I r) c.2.2.1):=bZ (fun ha=>by
   obtain⟨t,J,L⟩:=P.o ha;rw[g] at t J L;obtain⟨s1,s2⟩:=fE E hf.o rfl t;have ak:=(Du i en).symm;rw[K] at t J L;rw[ak] at t J L;obtain⟨q1,q2,q3⟩:=nM (k:=I r) la lb t s1 s2;exact⟨q3,by rw[J,q1],by rw[L,q2]⟩)
  rw[show decide (kids.length=0)=false from decide_eq_false (by omega)] at b;have b2:=my a3.o;have b3:=my H;replace H:=bZ H;clear A fk T hk W s D hd x1 a2 K M la lb lc O N;replace d:=bZ d;go_wp2_with fail;refine b.mono ?_;rintro e w' ⟨rfl,rfl⟩;clear b;go_wp2_with fail;go_roundw
  case rel=>exact⟨c.1,h1,c.2.1,c.2.2.1,c.2.2.2,by first | trivial | rfl,by first | trivial | rfl,H,by omega,R,a1⟩
  case measure=>rw[b2,b3];omega
def bE (a:List Ent):List Value:=a.flatMap (fun e=>[e.1,e.2])
theorem eQ (a b:List Ent):bE (a++b)=bE a++bE b:=by simp[bE]
theorem uy:(Tryz.prog.info? 304).map (fun i=>(i.zero,i.size,i.bytes))=some (some (Value.agg #[I 0,.slice none 0 0]),2,32):=by kernel_rfl
theorem r8 {e:TypeId} {size:Nat} {w w':World} {A:Option Addr} {n m c:Nat} {v:Value} {i j:List Value} (h:Z (w'.ownsRow 0 e size v (n+m) (i++j))) (l:Z (w.grownBy w' (Value.slice A n c).ownBlock)) (a:Z (v.ownBlock=(Value.slice A n c).ownBlock\/v.ownBlock=some w.heap.size)):
 ∃b c',v=.slice b (n+m) c'/\Z (w'.ownsRow 0 e size (.slice b (n+m) c') (n+m) (i++j))/\Z (aa (fb A) w w')/\Z (∀g∈fb b,g∈fb A\/w.heap.size<=g):=by
  obtain⟨b,c',rfl,_⟩:=aH h.o;refine⟨b,c',rfl,h,bZ (aa.grown l.o (fun k p=>cW p)),bZ (fun g d=>?_)⟩;have f:(Value.slice b (n+m) c').ownBlock=some g:=by rw[<-D8,iR];exact d
  rcases a.o with a | a
  ·rw[f] at a;exact .inl (cW a.symm)
  rw[f] at a;injection a with a;exact .inr (by omega)
structure dE (w0:World) (A0:Option Addr) (w:World) (A:Option Addr) (n c:Nat) (xs:List Ent):Prop where
 own:w.ownsRow 0 304 2 (.slice A n c) n (bE xs)
 kp:aa (fb A0) w0 w
 nw:∀g∈fb A,g∈fb A0\/w0.heap.size<=g
 len:xs.length=n
def mE (w:World) (A:Option Addr) (c b:List Ent) (e:Ending) (w':World):Prop:=∃a n' c',e=.returned (.slice a n' c')/\Z (dE w A w' a n' c' (c++b))
theorem dE.start {w:World} {A:Option Addr} {n c:Nat} {a:List Ent} (h:w.ownsRow 0 304 2 (.slice A n c) n (bE a)) (d:a.length=n):dE w A w A n c a:=⟨h,aa.refl _ _,fun g b=>.inl b,d⟩
theorem dE.drewN {b w:World} {a A:Option Addr} {n c:Nat} {d:List Ent} (h:dE b a w A n c d) (k:Nat):dE b a (w.drewN k) A n c d:=⟨ab h.own ((aa.refl [] w).drewN k),h.kp.trans (((aa.refl [] w).drewN k).nil),h.nw,h.len⟩
theorem dE.then_ {f w w1:World} {a A b:Option Addr} {n c e c1:Nat} {m i:List Ent} (h:dE f a w A n c m) (k:dE w A w1 b e c1 i):dE f a w1 b e c1 i:=by
 have o:=h.kp.size;refine⟨k.own,h.kp.more k.kp (fun y l=>h.nw y l),fun g j=>?_,k.len⟩;rcases k.nw g j with d | d
 ·exact h.nw g d
 exact .inr (by omega)
theorem yY (w:World) (p b:Nat) (s:List Ent) (F:List Nat) (A:Option Addr) (n0 c0:Nat) (xs:List Ent) (hN:aX tyI w p (s.map (·.1)) (s.map (·.2)) [] F) (b5:F.Nodup) (L:∀y∈fb A,y∉F) (r:b=s.length) (b0:b<=15) (f:∀x∈s,cX x.1/\dk x.2)
 (hA:w.ownsRow 0 304 2 (.slice A n0 c0) n0 (bE xs)) (hl:xs.length=n0) (hb:n0+b<=100000):Calls Tryz.prog 204 #[ptr p,.slice A n0 c0,.pointer none,.pointer none] w (mE w A xs s):=by
  obtain⟨i5,O,R,T,X⟩:=info_parts uy;have P:=dE.start hA hl;replace L:=bZ L;replace P:=bZ P;replace f:=bZ f;have a7:=bZ hN;replace O:=bZ O;replace R:=bZ R;replace T:=bZ T;replace X:=bZ X;replace r:=bZ r;clear hN hA;unfold ptr;go_enter Tryz.func204,Tryz.ntmps204;go_wp2_with fail;go_loopw [1,9] (fun a3 Y wr=>∃(j cnt:Nat) (J:Option Addr) (c1:Nat),j<=b/\Y=I j/\a3=.slice J cnt c1/\cnt=n0+j/\Z (dE w A wr J cnt c1 (xs++s.take j))) (fun _ Y _=>b+1 - (intOf Y).toNat)
  case atStart=>exact⟨0,n0,A,c0,C3 _,rfl,rfl,rfl,by simpa using P⟩
  obtain⟨j,cnt,J,c1,hj,rfl,rfl,h,c⟩:=hrel;obtain⟨wo,ap⟩:∃x,x=wr:=⟨_,rfl⟩;subst ap;replace h:=bZ h;have a0:=a7.o.keep c.o.kp L.o;have C:=bM.1 wo p _ _ _ _ a0 (by simp);rw[show decide (([]:List Nat).length=0)=true from rfl] at C;unfold ptr at C;obtain⟨kA,z,vA,D,cA,cc,hB,hk,hv,_,_⟩:=a0;unfold wT at hk hv;rw[Df,<-r.o] at hk hv;rw[Df,Df,<-r.o] at hB;have x0:=hB.cell 0;have x1:=hB.cell 1;have b7:∀k,(wo.drewN k).cell? (U p 0)=G kA b z:=fun k=>x0;have b4:(j:Int)<=(b:Int):=by omega
  go_wp2_with fail;refine C.mono ?_;rintro e w' ⟨rfl,rfl⟩;clear C;by_cases d:j=b
  ·have g1:((j:Int)==(b:Int))=true:=by simp[d]
   have g2:decide ((j:Int)=(b:Int))=true:=by simp[d]
   have a2:Z (∀k,dE w A (wo.drewN k) J cnt c1 (xs++s)):=bZ (fun k=>by
    have:=c.o.drewN k;rwa [d,r.o,List.take_length] at this)
   replace d:=bZ d;clear hB hk hv;go_wp2_with fail;go_quiet (fail);go_wp2_with fail;refine bodyPost_ret (v:=.slice J cnt c1) (by simp[results,Tryz.results204,go_sem]) rfl ?_;exact⟨_,_,_,rfl,bZ (a2.o _)⟩
  have an:j<b:=by omega
  have g1:((j:Int)==(b:Int))=false:=by simp;omega
  have g2:decide ((j:Int)=(b:Int))=false:=by simp;omega
  obtain⟨e0,t⟩:∃e,s[j]? =some e:=⟨_,CT (by rw[<-r.o];exact an)⟩;obtain⟨a5,a6⟩:=e0;obtain⟨⟨q,M⟩,i,a,m,N⟩:=f.o _ (CW t);have M:a5=I q:=M;have N:a6=.slice i a m:=N;subst M N;obtain⟨E,ac⟩:=aV hk (by omega);obtain⟨H,ak⟩:=aV hv (by omega);subst ac ak;have ck:=aj hk (j:=j) (u:=I q) (by rw[De,t];rfl);have cv:=aj hv (j:=j) (u:=.slice i a m) (by rw[De,t];rfl);have Q:s.take (j+1)=s.take j++[((I q:Value),(.slice i a m:Value))]:=by
   rw[Dq,t];rfl
  have b2:cnt<=100000:=by have:=h.o;omega
  have ar:=bZ d;replace Q:=bZ Q;have b6:IntKind.i64.wrap ((j:Int)+1)=(j:Int)+1:=C0 _ (by omega);clear hB hk hv d t;go_wp2_with fail;go_quiet (fail);go_wp2_with fail;obtain⟨XS,B⟩:∃XS,XS=xs++s.take j:=⟨_,rfl⟩;have a1:Z (dE w A (wo.drewN nq).drew J cnt c1 XS):=bZ (by rw[B];exact(c.o.drewN nq).drewN 1);have HS:(wo.drewN nq).drew.cell? (U p 0)=G (V E) b z/\(wo.drewN nq).drew.cell? (U p 1)=G (V H) b D/\(wo.drewN nq).drew.cell? (U E j)=some (I q)/\(wo.drewN nq).drew.cell? (U H j)=G i a m:=⟨x0,x1,ck,cv⟩;have b3:(j:Int)<(b:Int):=by omega
  have c:=a1;have a4:Z (∀(W W':World),(W.cell? (U p 0)=G (V E) b z/\W.cell? (U p 1)=G (V H) b D/\W.cell? (U E j)=some (I q)/\W.cell? (U H j)=G i a m)->aa [] W W'->(W'.cell? (U p 0)=G (V E) b z/\W'.cell? (U p 1)=G (V H) b D/\W'.cell? (U E j)=some (I q)/\W'.cell? (U H j)=G i a m)):=bZ (fun W W' h1 h2=>⟨h2.cellEq h1.1 (by simp),h2.cellEq h1.2.1 (by simp),h2.cellEq h1.2.2.1 (by simp),h2.cellEq h1.2.2.2 (by simp)⟩);replace B:=bZ B;refine ad (S:=(fun w':World=>w'.cell? (U p 0)=G (V E) b z/\w'.cell? (U p 1)=G (V H) b D/\w'.cell? (U E j)=some (I q)/\w'.cell? (U H j)=G i a m)) (n:=17) (by kernel_rfl) ?_;generalize (wo.drewN nq).drew=wd at*;refine ord [0,1,2,3,4,5,6,7,8,9,10,11,12,13,14,15] ?_
  iterate 16 (refine tq HS ?_;try simp only[PT,Y1,Y2,Y3])
  refine av ?_;refine J1 16 fun K hK=>?_;dsimp only[Y1,Y2,Y3];go_simp;obtain⟨b1,a8⟩:∃g,g=wd.heap.size:=⟨_,rfl⟩;have kz:aa [] wd (wd.alloc (.cells #[I q,.slice i a m] 304)):=(aa.refl [] wd).alloc _;have B1:=bZ (Blk.new wd 304 #[I q,.slice i a m]);have CO:=bZ (ab c.o.own kz);have HS:=a4.o _ _ HS kz;refine hK _ _ (.inr HS) ?_;clear hK K HS;rw[<-a8] at B1 ⊢;generalize wd.alloc (.cells #[I q,.slice i a m] 304)=wz at*;replace kz:=bZ kz
  try simp only[PT,Y1,Y2,Y3]
  refine J1 17 fun K hK=>?_;dsimp only[Y1,Y2,Y3];refine am (.tmp 69) (.tmp 85) 301 (by rfl) 0 304 i5 (.agg #[I 0,.slice none 0 0]) 2 32 Tryz.underlying301 O.o R.o T.o X.o rfl (by decide) (.slice J cnt c1) cnt (bE XS) (by rfl) CO.o (V b1) 1 _ [I q,.slice i a m] (by rfl) rfl (by have:=aI (off:=0) (l:=[I q,.slice i a m]) B1.o (by simp) 1;exact this) (by simp[Value.oneCell']) (by unfold maxLen;omega) (by omega) (C3 _) ?_;intro v4 w4 q1 q2 q3 q4;obtain⟨A2,c2,rfl,o,k,nf⟩:=r8 q1 q2 q4;clear q1 q2 q3 q4;have a9:Z (dE w A w4 A2 (cnt+1) c2 (XS++[((I q:Value),(.slice i a m:Value))])):=bZ (c.o.then_ ⟨by rw[eQ];exact o.o,kz.o.nil.trans k.o,fun g hg=>(nf.o g hg).imp_right (Dc kz.o.size),by rw[CU,c.o.len];rfl⟩);refine hK _ _ (.inl (by omega)) ?_;clear hK K
  try simp only[PT,Y1,Y2,Y3]
  refine JQ 18 ?_
  try simp only[PT,Y1,Y2,Y3]
  refine JD ?_;go_wp2_with fail;go_roundw
  case rel=>exact⟨j+1,cnt+1,A2,c2,by omega,by go_num,by first | trivial | rfl,by have:=h.o;omega,bZ (by rw[Q.o,<-Dd,<-B.o];exact a9.o)⟩
  case measure=>simp[intOf];omega
def acc (kids:List Kid) (en:List Ent) (j:Nat):List Ent:=pre (kids.take j) (en.take j)
theorem zm {kids:List Kid} {en:List Ent} {j:Nat} {c:Kid} {e:Ent} (f:kids.length=en.length+1) (b:kids[j]? =some c) (a:en[j]? =some e):acc kids en (j+1)=acc kids en j++c.2.2.1++[e]:=by
 have d:=(CV.1 a).1;unfold acc;rw[Dq,Dq,b,a];show pre (kids.take j++[c]) (en.take j++[e])=_;rw[xL _ _ _ _ (by rw[CY,CY];omega),Dd]
theorem zo {kids:List Kid} {en:List Ent} {c:Kid} (e:kids.length=en.length+1) (b:kids[en.length]? =some c):acc kids en en.length++c.2.2.1=ao kids en:=by
 have a:=du b;have d:kids.drop (en.length+1)=[]:=D0 (by omega);rw[d] at a;unfold acc
 conv=>rhs;rw[a]
 rw[lk _ en c (by rw[CY];omega),List.take_length]
theorem AS {kids:List Kid} {en:List Ent} {j:Nat} {c:Kid} (m:kids.length=en.length+1) (k:kids[j]? =some c) (l:j<=en.length):(acc kids en j).length+c.2.2.1.length+(en.length - j)<=(ao kids en).length:=by
 obtain⟨c',g,a,h,d,p⟩:=lJ m l;rw[k] at a;cases a;have o:ao kids en=ao (kids.take j++c::kids.drop (j+1)) (en.take j++en.drop j):=by rw[<-g,Du]
 rw[o,au _ _ _ _ _ h d];have n:∀(E:List Ent) (B:List Kid),E.length=B.length->E.length<=(suf E B).length:=by
  intro E
  induction E with
  | nil=>intro B _;simp
  | cons e E ih=>
   intro B f;cases B with
   | nil=>simp at f
   | cons b B=>
    have:=ih B (by simpa using f);simp[suf];omega
 have i:=n _ _ d;rw[Da] at i;simp only[CU];unfold acc;omega
theorem yX (w:World) (p b h:Nat) (en:List Ent) (kids:List Kid) (F0:List Nat) (s:Option Addr) (n0 c0:Nat) (xs:List Ent) (hN:aX tyI w p (en.map (·.1)) (en.map (·.2)) (kids.map (·.1)) F0) (r:kids.length=en.length+1) (t:∀y∈fb s,y∉F0) (i:b=en.length) (c5:1<=b) (bn:b<=15) (f:∀x∈ao kids en,cX x.1/\dk x.2)
 (hA:w.ownsRow 0 304 2 (.slice s n0 c0) n0 (bE xs)) (hl:xs.length=n0) (hb:n0+(ao kids en).length<=100000)
 (IH:∀c∈kids,∀(wk:World) (A:Option Addr) (n c0:Nat) (ys:List Ent),aa (fb s) w wk->(∀g∈fb A,g∈fb s\/w.heap.size<=g)->wk.ownsRow 0 304 2 (.slice A n c0) n (bE ys)->ys.length=n->n+c.2.2.1.length<=100000->Calls Tryz.prog 204 #[ptr c.1,.slice A n c0,.pointer none,.pointer none] wk (mE wk A ys c.2.2.1)):
 Calls Tryz.prog 204 #[ptr p,.slice s n0 c0,.pointer none,.pointer none] w (mE w s xs (ao kids en)):=by
  obtain⟨i5,a3,a6,a7,a8⟩:=info_parts uy;have a4:=dE.start hA hl;have fe:∀x∈en,cX x.1/\dk x.2:=fun x hx=>f x (bL r hx);have ak:=hN;obtain⟨kA,z,vA,M,cA,bi,hB,hk,hv,J,hF⟩:=hN;unfold wT at hk hv;have H:(kids.map (·.1)).length=b+1:=by rw[Df,r,i]
  rw[Df,<-i] at hk hv;rw[H] at J;rw[Df,Df,<-i,H] at hB;obtain⟨E,b9⟩:=aV hk (by omega);obtain⟨F,ba⟩:=aV hv (by omega);obtain⟨gx,bb⟩:=aV J (by omega);subst b9 ba bb;have x0:=hB.cell 0;have x1:=hB.cell 1;have x2:=hB.cell 2;have R:p∉fb s/\E∉fb s/\F∉fb s/\gx∉fb s:=by
   rw[hF] at t;exact⟨fun hm=>t _ hm (by simp),fun hm=>t _ hm (by simp[fb]),fun hm=>t _ hm (by simp[fb]),fun hm=>t _ hm (by simp[fb])⟩
  have O:=fun (wo:World) (k:aa (fb s) w wo)=>bM.1 wo p _ _ _ _ (ak.keep k t) (by rw[H];omega);rw[H,show decide (b+1=0)=false from decide_eq_false (by omega)] at O;replace O:=bZ O;replace R:=bZ R;replace a4:=bZ a4;replace fe:=bZ fe;replace hk:=bZ hk;replace hv:=bZ hv;replace J:=bZ J;replace r:=bZ r;replace IH:=bZ IH;replace hb:=bZ hb;replace a3:=bZ a3;replace a6:=bZ a6;replace a7:=bZ a7;replace a8:=bZ a8;replace i:=bZ i;clear ak hA f t hB hF H;unfold ptr at*;go_enter Tryz.func204,Tryz.ntmps204;go_wp2_with fail;go_loopw [1,9] (fun b2 a9 wr=>∃(j cnt:Nat) (A1:Option Addr) (c1:Nat),j<=b/\a9=I j/\b2=.slice A1 cnt c1/\Z (dE w s wr A1 cnt c1 (xs++acc kids en j))) (fun _ a9 _=>b+1 - (intOf a9).toNat)
  case atStart=>exact⟨0,n0,s,c0,C3 _,rfl,rfl,by simpa [acc,pre] using a4⟩
  obtain⟨j,cnt,A1,c1,hj,rfl,rfl,a⟩:=hrel;obtain⟨wo,bh⟩:∃x,x=wr:=⟨_,rfl⟩;subst bh;obtain⟨c,Y⟩:∃c,kids[j]? =some c:=⟨_,CT (by rw[r.o,<-i.o];omega)⟩;have b7:=CW Y;have b0:=AS r.o Y (by rw[<-i.o];exact hj);have ap:=a.o.len;rw[CU,hl] at ap;have ac:=IH.o c b7 wo A1 cnt c1 _ a.o.kp a.o.nw a.o.own a.o.len (by have:=hb.o;omega);have bp:cnt+c.2.2.1.length<=100000:=by have:=hb.o;omega
  have T:=O.o wo a.o.kp;have y0:wo.cell? (U p 0)=G (V E) b z:=a.o.kp.cellEq x0 R.o.1;have y2:wo.cell? (U p 2)=G (V gx) (b+1) bi:=a.o.kp.cellEq x2 R.o.1;have yc:wo.cell? (U gx j)=some (.pointer (V c.1)):=a.o.kp.cellEq (aj J.o (j:=j) (u:=.pointer (V c.1)) (by rw[De,De,Y];rfl)) R.o.2.2.2;have c4:(j:Int)<=(b:Int):=by omega
  have bt:(j:Int)<(b:Int)+1:=by omega
  replace Y:=bZ Y;clear b0 ap;go_wp2_with fail;refine T.mono ?_;clear T;rintro e w' ⟨rfl,rfl⟩;go_wp2_with fail;refine ac.mono ?_;clear ac;rintro e w1 ⟨A2,Q,c2,rfl,a0⟩;have m:=bZ (a.o.then_ a0.o);have P:Q=cnt+c.2.2.1.length:=by have X:=a0.o.len;have h2:=a.o.len;rw[CU,h2] at X;exact X.symm
  have z0:∀k,(w1.drewN k).cell? (U p 0)=G (V E) b z:=fun k=>m.o.kp.cellEq x0 R.o.1;have c7:w1.drew.cell? (U p 0)=G (V E) b z:=z0 1;have z1:w1.cell? (U p 1)=G (V F) b M:=m.o.kp.cellEq x1 R.o.1;clear a a0 y0 y2 yc;by_cases q:j=b
  ·have g1:((j:Int)==(b:Int))=true:=by simp[q]
   have g2:decide ((j:Int)=(b:Int))=true:=by simp[q]
   have ar:Z (∀k,dE w s (w1.drewN k) A2 Q c2 (xs++ao kids en)):=bZ (fun k=>by
    have:=m.o.drewN k;have h3:=zo r.o (by rw[<-i.o,<-q];exact Y.o);rw[<-h3,<-Dd,<-i.o,<-q];exact this)
   replace q:=bZ q;replace P:=bZ P;go_wp2_with fail;go_quiet (fail);go_wp2_with fail;refine bodyPost_ret (v:=.slice A2 Q c2) (by simp[results,Tryz.results204,go_sem]) rfl ?_;exact⟨_,_,_,rfl,bZ (ar.o _)⟩
  have bd:j<b:=by omega
  have g1:((j:Int)==(b:Int))=false:=by simp;omega
  have g2:decide ((j:Int)=(b:Int))=false:=by simp;omega
  obtain⟨e0,L⟩:∃e,en[j]? =some e:=⟨_,CT (by rw[<-i.o];exact bd)⟩;obtain⟨b4,b5⟩:=e0;obtain⟨⟨D,a1⟩,B,d,C,a2⟩:=fe.o _ (CW L);have a1:b4=I D:=a1;have a2:b5=.slice B d C:=a2;subst a1 a2;have ck:w1.cell? (U E j)=some (I D):=m.o.kp.cellEq (aj hk.o (j:=j) (u:=I D) (by rw[De,L];rfl)) R.o.2.1;have cv:w1.cell? (U F j)=G B d C:=m.o.kp.cellEq (aj hv.o (j:=j) (u:=.slice B d C) (by rw[De,L];rfl)) R.o.2.2.1;have a5:=zm r.o Y.o L;replace a5:=bZ a5;have bk:Q<=100000:=by omega
  have bl:=bZ q;have c6:IntKind.i64.wrap ((j:Int)+1)=(j:Int)+1:=C0 _ (by omega);replace P:=bZ P;clear q L;go_wp2_with fail;go_quiet (fail);go_wp2_with fail;obtain⟨XS,N⟩:∃XS,XS=(xs++acc kids en j)++c.2.2.1:=⟨_,rfl⟩;have an:Z (dE w s (w1.drewN nq).drew A2 Q c2 XS):=bZ (by rw[N];exact(m.o.drewN nq).drewN 1);have HS:(w1.drewN nq).drew.cell? (U p 0)=G (V E) b z/\(w1.drewN nq).drew.cell? (U p 1)=G (V F) b M/\(w1.drewN nq).drew.cell? (U E j)=some (I D)/\(w1.drewN nq).drew.cell? (U F j)=G B d C:=⟨z0 nq,z1,ck,cv⟩;have bs:(j:Int)<(b:Int):=by omega
  have a:=an;have b3:Z (∀(W W':World),(W.cell? (U p 0)=G (V E) b z/\W.cell? (U p 1)=G (V F) b M/\W.cell? (U E j)=some (I D)/\W.cell? (U F j)=G B d C)->aa [] W W'->(W'.cell? (U p 0)=G (V E) b z/\W'.cell? (U p 1)=G (V F) b M/\W'.cell? (U E j)=some (I D)/\W'.cell? (U F j)=G B d C)):=bZ (fun W W' X h2=>⟨h2.cellEq X.1 (by simp),h2.cellEq X.2.1 (by simp),h2.cellEq X.2.2.1 (by simp),h2.cellEq X.2.2.2 (by simp)⟩);replace N:=bZ N;refine ad (S:=(fun w':World=>w'.cell? (U p 0)=G (V E) b z/\w'.cell? (U p 1)=G (V F) b M/\w'.cell? (U E j)=some (I D)/\w'.cell? (U F j)=G B d C)) (n:=17) (by kernel_rfl) ?_;generalize (w1.drewN nq).drew=wd at*;refine ord [0,1,2,3,4,5,6,7,8,9,10,11,12,13,14,15] ?_
  iterate 16 (refine tq HS ?_;try simp only[PT,Y1,Y2,Y3])
  refine av ?_;refine J1 16 fun K hK=>?_;dsimp only[Y1,Y2,Y3];go_simp;obtain⟨b1,b6⟩:∃g,g=wd.heap.size:=⟨_,rfl⟩;have kz:aa [] wd (wd.alloc (.cells #[I D,.slice B d C] 304)):=(aa.refl [] wd).alloc _;have B1:=bZ (Blk.new wd 304 #[I D,.slice B d C]);have CO:=bZ (ab a.o.own kz);have HS:=b3.o _ _ HS kz;refine hK _ _ (.inr HS) ?_;clear hK K HS;rw[<-b6] at B1 ⊢;generalize wd.alloc (.cells #[I D,.slice B d C] 304)=wz at*;replace kz:=bZ kz
  try simp only[PT,Y1,Y2,Y3]
  refine J1 17 fun K hK=>?_;dsimp only[Y1,Y2,Y3];refine am (.tmp 69) (.tmp 85) 301 (by rfl) 0 304 i5 (.agg #[I 0,.slice none 0 0]) 2 32 Tryz.underlying301 a3.o a6.o a7.o a8.o rfl (by decide) (.slice A2 Q c2) Q (bE XS) (by rfl) CO.o (V b1) 1 _ [I D,.slice B d C] (by rfl) rfl (by have:=aI (off:=0) (l:=[I D,.slice B d C]) B1.o (by simp) 1;exact this) (by simp[Value.oneCell']) (by unfold maxLen;omega) (by omega) (C3 _) ?_;intro v4 w4 q1 q2 q3 q4;obtain⟨A3,c3,rfl,o,k,nf⟩:=r8 q1 q2 q4;clear q1 q2 q3 q4;have b8:Z (dE w s w4 A3 (Q+1) c3 (XS++[((I D:Value),(.slice B d C:Value))])):=bZ (a.o.then_ ⟨by rw[eQ];exact o.o,kz.o.nil.trans k.o,fun g hg=>(nf.o g hg).imp_right (Dc kz.o.size),by rw[CU,a.o.len];rfl⟩);refine hK _ _ (.inl (by omega)) ?_;clear hK K
  try simp only[PT,Y1,Y2,Y3]
  refine JQ 18 ?_
  try simp only[PT,Y1,Y2,Y3]
  refine JD ?_;go_wp2_with fail;go_roundw
  case rel=>exact⟨j+1,Q+1,A3,c3,by omega,by go_num,by first | trivial | rfl,bZ (by rw[a5.o,<-Dd,<-Dd,<-N.o];exact b8.o)⟩
  case measure=>simp[intOf];omega
theorem Ax:∀(h:Nat) (w:World) (p m:Nat) (g:List Ent) (F:List Nat) (A:Option Addr) (n c:Nat) (j:List Ent),Rep tyI w h p m g F->F.Nodup->m<=15->(∀y∈fb A,y∉F)->(∀x∈g,cX x.1/\dk x.2)->
 w.ownsRow 0 304 2 (.slice A n c) n (bE j)->j.length=n->n+g.length<=100000->Calls Tryz.prog 204 #[ptr p,.slice A n c,.pointer none,.pointer none] w (mE w A j g):=by
  intro h
  induction h with
  | zero=>
   rintro w p m g F A n c j ⟨rfl,t⟩ e E b f r C u;exact yY w p g.length g F A n c j t e b rfl E f r C u
  | succ h ih=>
   rintro w p m g F A n c j ⟨en,kids,J,rfl,q,o,rfl,t,B,rfl⟩ e E b f r C u;refine yX w p en.length h en kids J A n c j t o (fun y i a=>b y i (Di _ a)) rfl q E f r C u (fun d k N K n' c' O M H s D v=>?_);have l:∀y∈d.2.2.2,y∈J++af kids:=fun y i=>Dg _ (aT.2 ⟨d,k,i⟩);have z:=Rep.lt _ _ _ _ _ (B d k).1;refine ih N d.1 d.2.1 d.2.2.1 d.2.2.2 K n' c' O ((B d k).1.keep M _ _ _ _ _ (fun y i a=>b y i (l y a))) ?_ (B d k).2.2 (fun y i a=>?_) (fun x L=>f x (dC o k L)) s D v
   ·obtain⟨P,Q,rfl⟩:=List.append_of_mem k;rw[aB,aG] at e;refine Do.2 (fun x=>?_);have:=Do.1 e x;simp only[DN] at this;omega
   rcases H y i with q | q
   ·exact b y q (l y a)
   have:=z y a;omega
end Go.Proofs.YtmlmfpikncogpaaGreat
