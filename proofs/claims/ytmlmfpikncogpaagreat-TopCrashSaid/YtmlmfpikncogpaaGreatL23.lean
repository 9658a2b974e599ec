import Derived.Test.YtmlmfpikncogpaaGreatL22
namespace Go.Proofs.YtmlmfpikncogpaaGreat
open Go.RowKit
set_option linter.unusedSimpArgs false
set_option linter.unusedVariables false
set_option maxRecDepth 100000
set_option maxHeartbeats 16000000
theorem Cp:(Tryz.prog.info? 3).map (fun i=>(i.zero,i.size,i.bytes))=some (some (I 0),1,8):=by kernel_rfl
theorem ws (w:World) (A B:Option Addr) (l k:List Int) (n c m d:Nat) (p:l.length=n) (i:k.length=m) (z:aY w A l) (C:aY w B k) (O:n<=10000):
 Calls Tryz.prog 164 #[.slice A n c,.slice B m d] w fun e w'=>e=.returned (.bool (decide (l=k)))/\Z (aa [] w w'):=by
  generalize u:decide (l=k)=q;replace u:=bZ u;by_cases b:n=m
  ·subst b;replace z:=bZ z;replace C:=bZ C;replace p:=bZ p;replace i:=bZ i;have b:(n:Int)=(n:Int):=rfl;go_enter Tryz.func164,Tryz.ntmps164;go_wp2_with fail;go_loopw [13] (fun g wr=>∃j:Nat,j<=n/\g=I (j:Int)/\Z (l.take j=k.take j)/\Z (aa [] w wr)) (fun g _=>n - (intOf g).toNat)
   case atStart=>exact⟨0,C3 _,rfl,bZ rfl,bZ (aa.refl _ _)⟩
   obtain⟨j,N,rfl,D,a⟩:=hrel;by_cases t:j<n
   ·have H:(j:Int)<(n:Int):=by omega
    obtain⟨x,v⟩:∃x,l[j]? =some x:=⟨_,CT (by rw[p.o];exact t)⟩;obtain⟨y,r⟩:∃x,k[j]? =some x:=⟨_,CT (by rw[i.o];exact t)⟩;obtain⟨J,P,rfl,S⟩:=(z.o.keep a.o) j x v;obtain⟨K,Q,rfl,T⟩:=(C.o.keep a.o) j y r;have R:IntKind.i64.wrap ((j:Int)+1)=(j:Int)+1:=C0 _ (by omega);by_cases f:x=y
    ·subst f;have E:Z (l.take (j+1)=k.take (j+1)):=bZ (by rw[Dq,Dq,D.o,v,r]);clear v r;go_wp2_with fail;go_quiet (fail);go_wp2_with fail;go_roundw
     case rel=>exact⟨j+1,by omega,by go_num,E,bZ (a.o.drewN _)⟩
     case measure=>simp[intOf];omega
    obtain rfl:q=false:=by rw[<-u.o];exact decide_eq_false (fun h=>f (by subst h;rw[v] at r;injection r))
    have M:(x !=y)=true:=by simpa using f
    clear v r D;go_wp2_with fail;go_quiet (fail);go_wp2_with fail;go_ret;exact⟨rfl,bZ (a.o.drewN _)⟩
   obtain rfl:j=n:=by omega
   have s:l=k:=by
    have:=D.o;rwa [C6 (by rw[p.o];exact C9 _),C6 (by rw[i.o];exact C9 _)] at this
   obtain rfl:q=true:=by rw[<-u.o];exact decide_eq_true s
   clear s D;go_wp2_with fail;go_ret;exact⟨rfl,a⟩
  obtain rfl:q=false:=by rw[<-u.o];exact decide_eq_false (fun h=>b (by rw[<-p,<-i,h]))
  have F:¬(n:Int)=(m:Int):=by omega
  have L:((n:Int) !=(m:Int))=true:=by simpa using F
  clear z C p i;go_enter Tryz.func164,Tryz.ntmps164;go_wp2_with fail;go_ret;exact⟨rfl,bZ (aa.refl _ _)⟩
theorem BT (w:World) (b:Nat) (A B:Option Addr) (l k:List Int) (n c m d:Nat) (v:Value) (r:v.oneCell'=true) (j:l.length=n) (i:k.length=m) (f:aY w A l) (g:aY w B k) (p:n<=10000) (h:w.cell? (U b 0)=G B m d):
 Calls Tryz.prog 163 #[.agg #[.slice A n c,v],.pointer (V b)] w fun e w'=>e=.returned (.bool (decide (l=k)))/\Z (aa [] w w'):=by
  have a:aa [] w (w.alloc (.cells #[.slice A n c,v] 225)):=(aa.refl [] w).alloc _;have H:=bZ (ws (w.alloc (.cells #[.slice A n c,v] 225)) A B l k n c m d j i (f.keep a) (g.keep a) p);have s:(w.alloc (.cells #[.slice A n c,v] 225)).cell? (U b 0)=G B m d:=a.cellEq h (by simp);replace a:=bZ a;clear f g;go_enter Tryz.func163,Tryz.ntmps163;go_wp2_with (refine H.o.mono ?_;rintro e w2 ⟨rfl,q⟩);go_ret;exact⟨rfl,bZ (a.o.trans q.o)⟩
theorem BV (w:World) (b t cols:Nat) (l:Tab) (a:Int) (F:List Nat) (h:ci w t cols l a F) (c:Int) (d:w.cell? (U b 0)=some (ptr t)):
 Calls Tryz.prog 141 #[I c,.pointer (V b)] w fun e w'=>e=.returned (.bool (!decide (0<=c/\c<cols)))/\Z (aa [] w w'):=by
  have H:=bZ (Al w t cols l a F h c);generalize decide (0<=c/\c<(cols:Int))=q at H ⊢;clear h;unfold ptr at H d;go_enter Tryz.func141,Tryz.ntmps141;go_wp2_with (refine H.o.mono ?_;rintro e w2 ⟨rfl,rfl⟩);go_ret;exact⟨rfl,bZ (aa.refl _ _)⟩
def zv (n:Nat) (w:World) (e:Ending) (w':World):Prop:=∃i:Int,e=.returned (I i)/\(i= -1\/∃j:Nat,j<n/\i=(j:Int))/\Z (aa [] w w')
theorem yu (w:World) (b t cols:Nat) (l:Tab) (d:Int) (F:List Nat) (h:ci w t cols l d F) (v:w.cell? (U b 0)=some (ptr t)) (A:Option Addr) (k:List Int) (n c:Nat) (s:k.length=n) (p:aY w A k) (D:n<=10000):
 Calls Tryz.prog 161 #[.slice A n c,.func (.func 141) #[] #[.pointer (V b)]] w (zv n w):=by
  have r:Z (∀(x:Int) W,aa [] w W->Calls Tryz.prog 141 #[I x,.pointer (V b)] W fun e w'=>e=.returned (.bool (!decide (0<=x/\x<cols)))/\Z (aa [] W w')):=bZ (fun x W k=>BV W b t cols l d F (h.keep k (by simp)) x (k.cellEq v (by simp)));replace p:=bZ p;replace s:=bZ s;clear h v;go_enter Tryz.func161,Tryz.ntmps161;go_wp2_with fail;go_loopw [8] (fun i wr=>∃j:Nat,j<=n/\i=I (j:Int)/\Z (aa [] w wr)) (fun i _=>n - (intOf i).toNat)
  case atStart=>exact⟨0,C3 _,rfl,bZ (aa.refl _ _)⟩
  obtain⟨j,C,rfl,a⟩:=hrel;by_cases m:j<n
  ·have z:(j:Int)<(n:Int):=by omega
   obtain⟨x,y⟩:∃x,k[j]? =some x:=⟨_,CT (by rw[s.o];exact m)⟩;obtain⟨B,E,rfl,J⟩:=(p.o.keep a.o) j x y;have f:=bZ (r.o x wr a.o);have H:IntKind.i64.wrap ((j:Int)+1)=(j:Int)+1:=C0 _ (by omega);clear y;generalize decide (0<=x/\x<(cols:Int))=q at f;cases q with
   | true=>
    go_wp2_with (refine f.o.mono ?_;rintro e w3 ⟨rfl,g⟩);have u:=bZ (a.o.trans g.o);go_roundw
    case rel=>exact⟨j+1,by omega,by go_num,u⟩
    case measure=>simp[intOf];omega
   | false=>
    go_wp2_with (refine f.o.mono ?_;rintro e w3 ⟨rfl,g⟩);go_ret;exact⟨(j:Int),rfl,.inr ⟨j,m,rfl⟩,bZ (a.o.trans g.o)⟩
  obtain rfl:j=n:=by omega
  go_wp2_with fail;go_ret;exact⟨-1,rfl,.inl rfl,a⟩
theorem yq (w:World) (b:Nat) (B:Option Addr) (k:List Int) (m d:Nat) (Y:k.length=m) (H:aY w B k) (K:w.cell? (U b 0)=G B m d) (L:Option Addr) (f M:Nat) (y:List (Value×Value)) (O:List (List Nat))
 (z:w.ownsRow 0 225 2 (.slice L f M) f (cZ y)) (g:y.length=f) (J:fK w y O) (a0:f<=9223372036854775807):
 Calls Tryz.prog 162 #[.slice L f M,.func (.func 163) #[] #[.pointer (V b)]] w (zv f w):=by
  have A:Z (∀(i:Nat) (p:Value×Value),y[i]? =some p->∃(n:Option Addr) (s r t:Nat) (q:Bool),p=(.slice n s r,.pointer (V t))/\∀W,aa [] w W->Calls Tryz.prog 163 #[.agg #[.slice n s r,.pointer (V t)],.pointer (V b)] W fun e w'=>e=.returned (.bool q)/\Z (aa [] W w')):=bZ (fun i p x=>by
   obtain⟨N,_,n,s,r,cols,t,es,Fi,n1,rfl,P,Q,R,_⟩:=J.get i p x;exact⟨n,s,r,t,decide (cols=k),rfl,fun W F=>BT W b n B cols k s r m d _ rfl P Y (R.keep F) (H.keep F) Q (F.cellEq K (by simp))⟩)
  replace z:=bZ z;replace g:=bZ g;clear J H K;go_enter Tryz.func162,Tryz.ntmps162;go_wp2_with fail;go_loopw [8] (fun l wr=>∃j:Nat,j<=f/\l=I (j:Int)/\Z (aa [] w wr)) (fun l _=>f - (intOf l).toNat)
  case atStart=>exact⟨0,C3 _,rfl,bZ (aa.refl _ _)⟩
  obtain⟨j,hj,rfl,c⟩:=hrel;by_cases v:j<f
  ·have X:(j:Int)<(f:Int):=by omega
   obtain⟨p,x⟩:∃p,y[j]? =some p:=⟨_,CT (by rw[g.o];exact v)⟩;obtain⟨gx,D,a⟩:=km (ab z.o c.o) g.o (by omega);subst D;have C:=a j p x;clear a;obtain⟨n,s,r,t,q,rfl,u⟩:=A.o j p x;obtain⟨S,T⟩:=C;have a:=bZ (u wr c.o);have wj:IntKind.i64.wrap ((j:Int)+1)=(j:Int)+1:=C0 _ (by omega);clear x u;cases q with
   | false=>
    go_wp2_with (refine a.o.mono ?_;rintro e w3 ⟨rfl,h⟩);have E:=bZ (c.o.trans h.o);go_roundw
    case rel=>exact⟨j+1,by omega,by go_num,E⟩
    case measure=>simp[intOf];omega
   | true=>
    go_wp2_with (refine a.o.mono ?_;rintro e w3 ⟨rfl,h⟩);go_ret;exact⟨(j:Int),rfl,.inr ⟨j,v,rfl⟩,bZ (c.o.trans h.o)⟩
  obtain rfl:j=f:=by omega
  go_wp2_with fail;go_ret;exact⟨-1,rfl,.inl rfl,c⟩
def CR (w:World) (e:Ending) (w':World):Prop:=∃b:Bool,e=.returned (.bool b)/\Z (aa [] w w')
theorem rT (w:World) (b t cols:Nat) (l:Tab) (a:Int) (F:List Nat) (h:ci w t cols l a F) (g:w.cell? (U b 0)=some (ptr t)) (A:Option Addr) (k:List Int) (n c:Nat) (d:k.length=n) (f:aY w A k) (j:n<=10000):
 Calls Tryz.prog 140 #[.slice A n c,.func (.func 141) #[] #[.pointer (V b)]] w (CR w):=by
  have H:=bZ (yu w b t cols l a F h g A k n c d f j);clear h g f;go_enter Tryz.func140,Tryz.ntmps140;go_wp2_with (refine H.o.mono ?_;rintro e w' ⟨i,rfl,m,d⟩);go_ret;exact⟨_,rfl,d⟩
def oF (w:World) (e:Ending) (w':World):Prop:=∃(a:Option Addr) (c b:Nat) (d:Option Addr) (q:Bool),e=.returned (.tuple #[.agg #[.slice a c b,.pointer d],.bool q])/\Z (aa [] w w')
theorem yH (w:World) (t cols:Nat) (l:Tab) (N:Int) (F:List Nat) (h:ci w t cols l N F) (B:Option Addr) (k:List Int) (m d:Nat) (hk:k.length=m) (hB:aY w B k):
 Calls Tryz.prog 143 #[ptr t,.slice B m d] w (oF w):=by
  obtain⟨bt,xA,X,xc,rs,F1,xs,Gs,g,hT,W,n,T,hN,hR,rfl⟩:=h.out_;have a3:X<=9223372036854775807:=by
   obtain⟨A9,c9,he,h8,h9⟩:=aH W;injection he with _ _ he;subst he;unfold maxLen at h9;omega
  obtain⟨w1,f⟩:∃x,x=(w.alloc (.cells #[.slice B m d] 66)).alloc (.cells #[.slice none 0 0,.pointer none] 225):=⟨_,rfl⟩;have y:aa [] w w1:=by rw[f];exact((aa.refl [] w).alloc _).alloc _
  have b1:Blk w1 w.heap.size 66 #[.slice B m d]:=by rw[f];exact(Blk.new w 66 _).alloc _
  have M:(w.alloc (.cells #[.slice B m d] 66)).heap.size=w.heap.size+1:=by simp
  have s:Blk w1 (w.heap.size+1) 225 #[.slice none 0 0,.pointer none]:=by rw[f,<-M];exact Blk.new _ 225 _
  have H:=bZ (yq w1 w.heap.size B k m d hk (hB.keep y) (b1.cell 0) xA X xc xs Gs (ab W y) n (dh y T (by simp)) a3);have x3:=g.cell 3;have O:w1.cell? (U t 3)=G xA X xc:=(g.keep y (by simp)).cell 3;have D:=bZ W;replace s:=bZ s;replace g:=bZ g;replace y:=bZ y;replace T:=bZ T;replace n:=bZ n;clear h hT W hN hR b1 hB M;rw[f] at O;unfold ptr;go_enter Tryz.func143,Tryz.ntmps143;go_upto_if 14 with (rw[<-f];refine H.o.mono ?_;rintro e w2 ⟨i,rfl,L,c⟩;have y0:=(s.o.keep c.o (by simp)).cell 0;have y1:=(s.o.keep c.o (by simp)).cell 1;have f0:=(s.o.keep c.o (by simp)).frozen 0;have f1:=(s.o.keep c.o (by simp)).frozen 1;have z3:=((g.o.keep y.o (by simp)).keep c.o (by simp)).cell 3;replace L:=bZ L);have C:Z (aa [] w w2):=bZ (y.o.trans c.o);have Y:=bZ (ab D.o C.o);have A:w.heap.size<=w.heap.size+1:=by omega
  obtain⟨r,z⟩:∃x,x=w.heap.size+1:=⟨_,rfl⟩;rw[<-z] at y0 y1 f0 f1 A ⊢;have u:Z (∀(P:Option Addr) (R Q:Nat) (S:Option Addr) (q:Bool),oF w (.returned (.tuple #[.agg #[.slice P R Q,.pointer S],.bool q])) ((w2.setCell (U r 0) (.slice P R Q)).setCell (U r 1) (.pointer S))):=bZ (fun P R Q S q=>⟨P,R,Q,S,q,rfl,bZ ((C.o.setCell (.inr A) _).setCell (.inr A) _)⟩);have E:Z (Blk w2 r 225 #[.slice none 0 0,.pointer none]):=bZ (by rw[z];exact s.o.keep c.o (by simp));have J:Z (∀(a b:Value),((w2.setCell (U r 0) a).setCell (U r 1) b).cell? (U r 0)=some a/\((w2.setCell (U r 0) a).setCell (U r 1) b).cell? (U r 1)=some b):=bZ (fun a b=>by
   have:=(E.o.set_ 0 a).set_ 1 b;exact⟨this.cell 0,this.cell 1⟩)
  clear s z c f H D C x3 O;rcases L.o with rfl | ⟨j,hj,rfl⟩
  ·clear L z3;go_wp2_with fail;obtain⟨z0,z1⟩:=J.o (.slice none 0 0) (.pointer none);refine bodyPost_ret (v:=.tuple #[.agg #[.slice none 0 0,.pointer none],.bool false]) (by simp[results,Tryz.results143,go_sem,z0,z1]) rfl ?_;exact u.o _ _ _ _ _
  have a7:(j:Int)<(X:Int):=by omega
  have a6:¬(j:Int)<0:=by omega
  obtain⟨p,hp⟩:∃p,xs[j]? =some p:=⟨_,CT (by rw[n.o];exact hj)⟩;obtain⟨gx,a2,K⟩:=km Y.o n.o (by omega);subst a2;have a1:=K j p hp;obtain⟨a4,_,cA,cn,cc,cols,bi,es,Fi,n1,rfl,g1,g2,g3,_⟩:=T.o.get j p hp;obtain⟨a5,a0⟩:=a1;unfold ptr at a0;clear K hp L;go_wp2_with fail;obtain⟨z0,z1⟩:=J.o (.slice cA cn cc) (.pointer (V bi));refine bodyPost_ret (v:=.tuple #[.agg #[.slice cA cn cc,.pointer (V bi)],.bool true]) (by simp[results,Tryz.results143,go_sem,z0,z1]) rfl ?_;exact u.o _ _ _ _ _
def lh (w:World) (k:List Int) (n:Nat) (e:Ending) (w':World):Prop:=∃A c,e=.returned (.slice A n c)/\Z (aY w' A k)/\Z (∀g∈fb A,w.heap.size<=g/\g<w'.heap.size)/\Z (aa [] w w')
theorem ry {w:World} {b n c:Nat} {A:Option Addr} {k:List Int} (h:w.ownsRow b 3 1 (.slice A n c) n (k.map (Value.int .i64))) (j:k.length=n):aY w A k:=fun i x a=>by
 have e:=(CV.1 a).1;obtain⟨g,c',f,_,_,_,_,d,_⟩:=ax h (by omega);injection f with hA _ _;exact⟨g,0,hA,by rw[Dl];exact d _ _ (by rw[De,a];rfl)⟩
theorem xj {w:World} {A:Option Addr} {k:List Int} (h:aY w A k):bm w A k.length (k.map (Value.int .i64)):=by
 cases k with
 | nil=>exact .inl rfl
 | cons x r=>
  obtain⟨g,off,rfl,_⟩:=h 0 x rfl;refine .inr ⟨g,off,rfl,fun j u a=>?_⟩;rw[De] at a;cases b:(x::r)[j]? with
  | none=>rw[b] at a;cases a
  | some v=>
   rw[b] at a;obtain rfl:I v=u:=by simpa using a
   obtain⟨f,d,c,e⟩:=h j v b;simp only[Option.some.injEq,Addr.mk.injEq] at c;obtain⟨rfl,rfl,_⟩:=c;exact e
theorem jV (w:World) (A:Option Addr) (k:List Int) (n c:Nat) (l:k.length=n) (s:aY w A k) (Q:n<=1000000):
 Calls Tryz.prog 115 #[.slice A n c] w (lh w k n):=by
  cases A with
  | none=>
   have y:k=[]:=by
    cases k with
    | nil=>rfl
    | cons x r=>obtain⟨g,off,J,_⟩:=s 0 x rfl;cases J
   subst y;obtain rfl:0=n:=l;have K:∀w':World,(binOp .eql 66 (.slice none 0 c) (.slice none 0 0)).run Tryz.prog w'=.ok (.bool true) w':=fun w'=>Dz w' 66 3 none 0 c 0 0 Tryz.underlying66;have b:lh w [] 0 (.returned (.slice none 0 0)) w:=⟨none,0,rfl,bZ (fun i x h=>by simp at h),bZ (by simp[fb]),bZ (aa.refl _ _)⟩;replace b:=bZ b;clear s;go_enter Tryz.func115,Tryz.ntmps115;go_wp2_with fail;go_ret;exact b.o
  | some a=>
   obtain⟨M,v,e,f,j⟩:=info_parts Cp;have K:∀w':World,(binOp .eql 66 (.slice (some a) n c) (.slice none 0 0)).run Tryz.prog w'=.ok (.bool false) w':=fun w'=>Dz w' 66 3 (some a) n c 0 0 Tryz.underlying66;have d:=xj (s.keep ((aa.refl [] w).alloc (.cells #[] 3)));rw[l] at d;have t:Z ((k.map (Value.int .i64)).length=n*1):=bZ (by rw[Df,l];omega);have p:Z (∀u∈k.map (Value.int .i64),u.oneCell'=true):=bZ (fun u L=>by obtain⟨x,_,rfl⟩:=Dt.1 L;rfl);replace d:=bZ d;have z:=bZ (bD w 3 1);have m:w.heap.size<=(w.alloc (.cells #[] 3)).heap.size:=(aa.alloc (aa.refl [] w) _).size;replace v:=bZ v;replace e:=bZ e;replace f:=bZ f;replace j:=bZ j;replace l:=bZ l;clear s;go_enter Tryz.func115,Tryz.ntmps115;go_wp2_with (at_builtin;refine ae (by rfl) (.tmp 5) (.tmp 6) 66 rfl w.heap.size 3 M (I 0) 1 8 Tryz.underlying66 v.o e.o f.o j.o rfl (by decide) _ 0 [] rfl z.o (some a) n c (k.map (Value.int .i64)) rfl t.o d.o p.o (by unfold maxLen;omega) (by omega) m ?_;intro P w1 F H N O);have C:=bZ (aF ((aa.refl [] w).alloc _) (aa.refl [] _) z.o H.o);have q:Z (w1.ownsRow w.heap.size 3 1 P n (k.map (Value.int .i64))):=bZ (by have:=F.o;rw[Dm,Dl] at this;exact this);clear F H N O d z m;obtain⟨B,D,rfl,_⟩:=aH q.o;have b:Z (lh w k n (.returned (.slice B n D)) w1):=bZ ⟨B,D,rfl,bZ (ry q.o l.o),bZ (fun g E=>⟨(aw q.o E).1,(aw q.o E).2.1⟩),C⟩;clear q C;go_ret;exact b.o
theorem Ag:(Tryz.prog.info? 225).map (fun i=>(i.zero,i.size,i.bytes))=some (some (.agg #[.slice none 0 0,.pointer none]),2,32):=by kernel_rfl
def ow (w:World) (t cols:Nat) (l:Tab) (a:Int) (F:List Nat) (q:Nat) (e:Ending) (w':World):Prop:=
 ∃b d c f,e=.returned (.tuple #[])/\Z (ci w' t cols l a b)/\Z (aa F w w')/\Z (∀x∈b,x∈F\/w.heap.size<=x)/\Z (w'.cell? (U t 3)=G d c f)/\c<=q+1
theorem zJ {w w1 w2 w3:World} {t cols q xc:Nat} {N:Option Addr} {l:Tab} {E:Int} {F:List Nat} (h:ci w t cols l E F) (c:w.cell? (U t 3)=G N q xc) {f:Option Addr} {B H D:Nat} {k:List Int} {o:List Nat}
 (kw:aa [] w w1) (hI:aY w1 f k) (hk:k.length=B) (a5:B<=10000) (C:∀g∈fb f,w.heap.size<=g/\g<w1.heap.size) (k2:aa [] w1 w2) (hT:aR tyS 250 w2 D [] o 0) (J:∀x∈o,w1.heap.size<=x)
 (Y:List (Value×Value)) (Q:w.ownsRow 0 225 2 (.slice N q xc) q (cZ Y)) {e:Option Addr} {p:Nat} (k3:aa (fb N) w2 w3) (v:∀g∈fb e,g∈fb N\/w2.heap.size<=g)
 (ho:w3.ownsRow 0 225 2 (.slice e (q+1) p) (q+1) (cZ Y++[.slice f B H,ptr D])):
 ∃F',ci (w3.setCell (U t 3) (.slice e (q+1) p)) t cols l E F'/\aa F w (w3.setCell (U t 3) (.slice e (q+1) p))/\∀x∈F',x∈F\/w.heap.size<=x:=by
  obtain⟨bt,ac,an,ak,rs,F1,n,A,hB,P,u,T,K,hN,hR,rfl⟩:=h.out_;have he:=hB.cell 3;rw[c] at he;simp only[DW,EI,D5,Option.some.injEq,EO] at he;obtain⟨rfl,rfl,rfl⟩:=he;have W:cZ Y=cZ n:=by
   by_cases h0:0<q
   ·obtain⟨g,c',hv,_,_,_,_,_,a9,a8⟩:=ax Q h0;refine Ee (fun i=>?_);have l1:=Q.1;have l2:=u.1;by_cases hi:i<q*2
    ·obtain⟨g1,c1,a6,_,_,_,_,q1,_⟩:=ax Q h0;obtain⟨g2,c2,a7,_,_,_,_,q2,_⟩:=ax u h0;injection a6 with e1 _ _;injection a7 with e2 _ _;rw[e1] at e2;injection e2 with e2;injection e2 with e2 _;subst e2;have a1:=CT (l:=cZ Y) (i:=i) (by omega);have a2:=CT (l:=cZ n) (i:=i) (by omega);have b1:=q1 i _ a1;have b2:=q2 i _ a2;rw[b1] at b2;rw[a1,a2];exact b2
    rw[D9 (by omega),D9 (by omega)]
   have l1:=Q.1;have l2:=u.1;have z1:cZ Y=[]:=Dh (by omega);have z2:cZ n=[]:=Dh (by omega);rw[z1,z2]
  rw[W] at ho;obtain⟨⟨n1,n2,n3⟩,n4,n5,n6,n7,n8,n9⟩:=nd4.1 hN;have s1:=kw.size;have s2:=k2.size;have s3:=k3.size;have tl:=hB.lt;have xl:∀x∈fb N,x<w.heap.size:=fun x c=>(aw u c).2.1;have gl:=kK K;have fl:=P.lt;have z:aa (fb N) w w3:=(kw.trans k2).nil.trans k3;have tx:t∉fb e:=fun d=>by
   rcases v t d with h | h
   ·exact n1 h
   omega
  have X:aa [t] w3 (w3.setCell (U t 3) (.slice e (q+1) p)):=(aa.refl [t] w3).setCell (.inl (by simp)) _;have a0:=(hB.keep z n1).set_ 3 (.slice e (q+1) p);have cF:∀g∈fb f,g∉o:=fun g R d=>by have:=J g d;have:=(C g R).2;omega
  have hG:jG w3 (.slice f B H,ptr D) (fb f++o):=⟨f,B,H,k,D,[],o,0,rfl,hk,a5,((hI.keep k2).part k3 (fun g R d=>by have:=xl g d;have:=(C g R).1;omega)),hT.keep k3 (fun y m d=>by have:=xl y m;have:=J y d;omega),by simp,fun g R=>by have:=(C g R).2;omega,Dp.2 ⟨by cases f<;>simp[fb],hT.nd,fun a ha b hb L=>by subst L;exact cF a ha hb⟩,rfl⟩;have a3:fK w3 (n++[(.slice f B H,ptr D)]) (A++[fb f++o]):=by
   have:=dh z K (fun y m d=>n8 y m d);clear Q u T hN hR W ho gl n3 n6 n8 n9
   revert this
   generalize A=Gs1;clear K;generalize n=xs1;intro this
   induction xs1 generalizing Gs1 with
   | nil=>cases Gs1 with
    | nil=>exact⟨hG,trivial⟩
    | cons _ _=>exact this.elim
   | cons x r ih=>cases Gs1 with
    | nil=>exact this.elim
    | cons g gs=>exact⟨this.1,ih gs this.2⟩
  have j:∀x∈fb f++o,w.heap.size<=x/\x<w2.heap.size:=fun x c=>by
   rcases CX.1 c with c | c
   ·have:=C x c;omega
   have:=hT.lt x c;have:=J x c;omega
  have M:(A++[fb f++o]).flatten=A.flatten++(fb f++o):=by simp
  have S:(t::(fb e++(F1++(A++[fb f++o]).flatten))).Nodup:=by
   rw[M];refine nd4.2 ⟨⟨tx,n2,fun d=>?_⟩,by cases e<;>simp[fb],n5,Dp.2 ⟨n6,hG.nd,fun a ha b hb L=>?_⟩,fun x c d=>?_,fun x c d=>?_,fun x c d=>?_⟩
   ·rcases CX.1 d with h | h
    ·exact n3 h
    have:=(j t h).1;omega
   ·subst L;have:=gl a ha;have:=(j a hb).1;omega
   ·rcases v x c with h | h
    ·exact n7 x h d
    have:=fl x d;omega
   ·rcases v x c with h | h
    ·rcases CX.1 d with s | s
     ·exact n8 x h s
     have:=xl x h;have:=(j x s).1;omega
    rcases CX.1 d with s | s
    ·have:=gl x s;omega
    have:=(j x s).2;omega
   rcases CX.1 d with s | s
   ·exact n9 x c s
   have:=fl x c;have:=(j x s).1;omega
  have tG:t∉(A++[fb f++o]).flatten:=(nd4.1 S).1.2.2;have O:=ft (X':=t::(fb e++(F1++(A++[fb f++o]).flatten))) h.hc.1 z hR (fun y m d=>(jO h.hc.1 hR y d).2 (by simp[m])) (fun x c=>by
   rw[M] at c;simp only[Db,CX] at c ⊢;rcases c with h | h | h | h | h | h
   ·exact .inl (.inl h)
   ·rcases v x h with h | h
    ·exact .inl (.inr (.inl h))
    exact .inr (by omega)
   ·exact .inl (.inr (.inr (.inl h)))
   ·exact .inl (.inr (.inr (.inr h)))
   ·exact .inr (j x (by simp[h])).1
   exact .inr (j x (by simp[h])).1)
  have a4:=ft (X':=t::(fb e++(F1++(A++[fb f++o]).flatten))) h.hc.1 X O (fun y m d=>(jO h.hc.1 O y d).2 (by simp only[CZ] at m;simp[m])) (fun x c=>.inl c);refine⟨_,⟨⟨bt,e,q+1,p,rs,F1,n++[(.slice f B H,ptr D)],A++[fb f++o],a0,(P.keep z (fun y m d=>n7 y m d)).keep X (fun y m d=>by simp only[CZ] at m;subst m;exact n2 d),
   aq (by
    have:cZ (n++[(Value.slice f B H,ptr D)])=cZ n++[.slice f B H,ptr D]:=by simp[cZ]
    rw[this];exact ho) X (fun y m d=>by simp only[CZ] at m;subst m;exact tx d),by rw[CU,T];rfl,dh X a3 (fun y m d=>by simp only[CZ] at m;subst m;exact tG d),S,a4,rfl⟩,h.hc,h.asc,h.ids,h.nx⟩,?_,fun x c=>?_⟩
  ·exact(z.mono (fun x c=>.inl (by simp[c]))).trans (X.mono (fun x c=>.inl (by simp only[CZ] at c;simp[c])))
  rw[M] at c;simp only[Db,CX] at c ⊢;rcases c with (h | h | h | h | h | h) | h
  ·exact .inl (.inl (.inl h))
  ·rcases v x h with h | h
   ·exact .inl (.inl (.inr (.inl h)))
   exact .inr (by omega)
  ·exact .inl (.inl (.inr (.inr (.inl h))))
  ·exact .inl (.inl (.inr (.inr (.inr h))))
  ·exact .inr (j x (by simp[h])).1
  ·exact .inr (j x (by simp[h])).1
  exact .inl (.inr h)
theorem xz (w:World) (t cols:Nat) (l:Tab) (a:Int) (F:List Nat) (h:ci w t cols l a F) (A:Option Addr) (k:List Int) (m c:Nat) (hk:k.length=m) (hA:aY w A k) (hn:m<=10000)
 (j:Option Addr) (i r q:Nat) (y:w.cell? (U t 3)=G j i r) (c1:i<=q) (hq:q<=1000):
 Calls Tryz.prog 118 #[ptr t,.slice A m c] w (ow w t cols l a F q):=by
  have k0:aa [] w (w.alloc (.cells #[ptr t] 111)):=(aa.refl [] w).alloc _;have B0:=Blk.new w 111 #[ptr t];have H1:=bZ (rT (w.alloc (.cells #[ptr t] 111)) w.heap.size t cols l a F (h.keep k0 (by simp)) (B0.cell 0) A k m c hk (hA.keep k0) hn);have H2:Z (∀W,aa [] w W->Calls Tryz.prog 143 #[ptr t,.slice A m c] W (oF W)):=bZ (fun W kw=>yH W t cols l a F (h.keep kw (by simp)) A k m c hk (hA.keep kw));have J:Z (∀W,aa [] (w.alloc (.cells #[ptr t] 111)) W->W.cell? (U w.heap.size 0)=some (.pointer (V t))):=bZ (fun W kw=>kw.cellEq (B0.cell 0) (by simp));obtain⟨i0,hi,a4,a5,a6⟩:=info_parts Ag;replace hi:=bZ hi;replace a4:=bZ a4;replace a5:=bZ a5;replace a6:=bZ a6;replace k0:=bZ k0;replace h:=bZ h;replace hA:=bZ hA;replace y:=bZ y;have ba:Z (w.heap.size<(w.alloc (.cells #[ptr t] 111)).heap.size):=bZ (by simp);clear B0;unfold ptr at H1 H2 k0 J ba ⊢;go_enter Tryz.func118,Tryz.ntmps118;go_upto_region 3 with (first
   | (go_at_call 140;refine H1.o.mono ?_;rintro e w1 ⟨b1,rfl,E⟩;have bl:=J.o w1 E.o;have a1:=bZ (k0.o.trans E.o))
   | (go_at_call 143;refine(H2.o w1 a1.o).mono ?_;rintro e w2 ⟨aA,an,ac,bp,b2,rfl,a2⟩))
  have f:Z (aa [] w (w2.alloc (.cells #[.slice aA an ac,.pointer bp] 225))):=bZ ((a1.o.trans a2.o).alloc _);have y0:(w2.alloc (.cells #[.slice aA an ac,.pointer bp] 225)).cell? (U w.heap.size 0)=some (.pointer (V t)):=J.o _ ((E.o.trans a2.o).alloc _);clear E a1 a2 H1 H2 J k0 bl;obtain⟨b5,a9⟩:∃x,x=w2.heap.size:=⟨_,rfl⟩;rw[<-a9];generalize w2.alloc (.cells #[.slice aA an ac,.pointer bp] 225)=w3 at*;clear a9;have d:Z (ow w t cols l a F q (.returned (.tuple #[])) w3):=bZ ⟨F,j,i,r,rfl,bZ (h.o.keep f.o (by simp)),bZ f.o.nil,bZ (fun x y=>.inl y),bZ (f.o.cellEq y.o (by simp)),by omega⟩;by_cases a0:b1=false/\b2=false/\0<m
  ·obtain⟨rfl,rfl,bk⟩:=a0;clear d;have c0:(0:Int)<(m:Int):=by omega
   have u:=bZ (h.o.keep f.o (by simp));have v:=bZ (f.o.cellEq y.o (by simp));have H3:=bZ (hA.o.keep f.o);obtain⟨xs,hX⟩:∃xs,Z (w3.ownsRow 0 225 2 (.slice j i r) i (cZ xs)):=by
    obtain⟨bt,N,P,O,rs,F1,a7,Gs,B,a8,C,_⟩:=u.o.out_;have p:=B.cell 3;rw[v.o] at p;simp only[DW,EI,D5,Option.some.injEq,EO] at p;obtain⟨rfl,rfl,rfl⟩:=p;exact⟨a7,bZ C⟩
   have bn:Z (w.heap.size<w3.heap.size/\w.heap.size≠t):=bZ ⟨by have:=block_lt_of_cell y0;exact this,fun p=>by have:=h.o.lt t h.o.mem;omega⟩;have a3:Z (t∉fb j):=bZ (by
    obtain⟨bt,N,P,O,rs,F1,a7,Gs,B,a8,C,_,_,hN,_⟩:=u.o.out_;have p:=B.cell 3;rw[v.o] at p;simp only[DW,EI,D5,Option.some.injEq,EO] at p;obtain⟨rfl,rfl,rfl⟩:=p;exact(nd4.1 hN).1.1)
   have bd:Z (∀W Y,aa Y w3 W->t∉Y->W.frozen? (U t 3)=false/\W.cell? (U t 3)=G j i r):=bZ (fun W Y k hY=>by
    obtain⟨bt,N,P,O,B⟩:=u.o.cells;exact⟨(B.keep k hY).frozen 3,k.cellEq v.o hY⟩)
   have bb:Z (w.heap.size∉fb j):=bZ (fun hm=>by
    obtain⟨bt,N,P,O,rs,F1,a7,Gs,B,a8,C,_⟩:=h.o.out_;have p:=B.cell 3;rw[y.o] at p;simp only[DW,EI,D5,Option.some.injEq,EO] at p;obtain⟨rfl,rfl,rfl⟩:=p;have:=(aw C hm).2.1;omega)
   go_wp2_with fail;refine ad (S:=(fun w':World=>w'.cell? (U w.heap.size 0)=some (.pointer (V t))/\w'.cell? (U t 3)=G j i r)) (n:=13) (by kernel_rfl) ?_;have b:w3.drew.cell? (U w.heap.size 0)=some (.pointer (V t))/\w3.drew.cell? (U t 3)=G j i r:=⟨y0,v.o⟩;have H:Z (aa [] w3 w3.drew):=bZ (aa.refl [] w3).drew;clear y0;generalize w3.drew=wd at*;refine ord [0,1,2,3,4,5] ?_
   iterate 6 (refine tq b ?_;try simp only[PT,Y1,Y2,Y3])
   refine av ?_;refine J1 6 fun K s=>?_;dsimp only[Y1,Y2,Y3];go_simp;refine(jV wd A k m c hk (H3.o.keep H.o) (by omega)).mono ?_;rintro e w4 ⟨Q,T,rfl,b7,D,k4⟩;have b:w4.cell? (U w.heap.size 0)=some (.pointer (V t))/\w4.cell? (U t 3)=G j i r:=⟨k4.o.cellEq b.1 (by simp),k4.o.cellEq b.2 (by simp)⟩;have L:Z (aa [] w3 w4):=bZ (H.o.trans k4.o);have D:Z (∀g∈fb Q,w3.heap.size<=g/\g<w4.heap.size):=bZ (fun g hg=>⟨Dc H.o.size (D.o g hg).1,(D.o g hg).2⟩);refine s _ _ (.inr b) ?_;clear s K k4 H
   try simp only[PT,Y1,Y2,Y3]
   refine J1 7 fun K s=>?_;dsimp only[Y1,Y2,Y3];go_simp;refine(tS.2 w4).mono ?_;rintro e z ⟨R,Fi,rfl,b8,k5,b6⟩;unfold ptr;have b:z.cell? (U w.heap.size 0)=some (.pointer (V t))/\z.cell? (U t 3)=G j i r:=⟨k5.o.cellEq b.1 (by simp),k5.o.cellEq b.2 (by simp)⟩;refine s _ _ (.inr b) ?_;clear s K
   try simp only[PT,Y1,Y2,Y3]
   refine ord [8] ?_
   (refine tq b ?_;try simp only[PT,Y1,Y2,Y3])
   refine av ?_;refine J1 9 fun K s=>?_;dsimp only[Y1,Y2,Y3];go_simp;have B9:=bZ (Blk.new z 225 #[.slice Q m T,.pointer (V R)]);have M:aa [] z (z.alloc (.cells #[.slice Q m T,.pointer (V R)] 225)):=(aa.refl [] z).alloc _;have b:(z.alloc (.cells #[.slice Q m T,.pointer (V R)] 225)).cell? (U w.heap.size 0)=some (.pointer (V t))/\(z.alloc (.cells #[.slice Q m T,.pointer (V R)] 225)).cell? (U t 3)=G j i r:=⟨M.cellEq b.1 (by simp),M.cellEq b.2 (by simp)⟩;replace M:=bZ M;refine s _ _ (.inr b) ?_;clear s K;obtain⟨b9,ak⟩:∃x,x=z.heap.size:=⟨_,rfl⟩;rw[<-ak] at B9 ⊢;generalize z.alloc (.cells #[.slice Q m T,.pointer (V R)] 225)=w6 at*;clear ak
   try simp only[PT,Y1,Y2,Y3]
   refine J1 10 fun K s=>?_;dsimp only[Y1,Y2,Y3];refine am (.tmp 31) (.tmp 36) 173 (by rfl) 0 225 i0 (.agg #[.slice none 0 0,.pointer none]) 2 32 Tryz.underlying173 hi.o a4.o a5.o a6.o rfl (by decide) (.slice j i r) i (cZ xs) (by rfl) (ab (ab (ab hX.o L.o) k5.o) M.o) (V b9) 1 _ [.slice Q m T,.pointer (V R)] (by rfl) rfl (by have:=aI (off:=0) (l:=[.slice Q m T,.pointer (V R)]) B9.o (by simp) 1;exact this) (by simp[Value.oneCell']) (by unfold maxLen;omega) (by omega) (C3 _) ?_;intro v' w7 q1 q2 _ q4;obtain⟨b3,b4,rfl,o7,k7,b0⟩:=bR (A:=j) (n:=i) (c:=r) q1 q2 q4;clear q1 q2 q4;have b:w7.cell? (U w.heap.size 0)=some (.pointer (V t))/\w7.cell? (U t 3)=G j i r:=⟨k7.o.cellEq b.1 bb.o,k7.o.cellEq b.2 a3.o⟩;have bs:w7.frozen? (U t 3)=false:=(bd.o w7 (fb j) (((L.o.trans k5.o).trans M.o).nil.trans k7.o) a3.o).1;refine s _ _ (.inr b) ?_;clear s K
   try simp only[PT,Y1,Y2,Y3]
   refine ord [11,12] ?_
   iterate 2 (refine tq b ?_;try simp only[PT,Y1,Y2,Y3])
   refine av ?_;refine JQ 13 ?_
   try simp only[PT,Y1,Y2,Y3]
   refine JD ?_;obtain⟨F',q1,q2,q3⟩:=zJ (w:=w3) (w1:=w4) (w2:=w6) (w3:=w7) u.o v.o L.o b7.o hk hn D.o (k5.o.trans M.o) (b8.o.keep M.o (by simp)) b6.o xs hX.o k7.o (fun g hg=>b0.o g hg) o7.o;have ap:Z (ow w t cols l a F q (.returned (.tuple #[])) (w7.setCell (U t 3) (.slice b3 (i+1) b4))):=bZ ⟨F',b3,i+1,b4,rfl,bZ q1,bZ (f.o.nil.trans q2),bZ (fun x y=>(q3 x y).imp_right (fun h=>Dc f.o.size h)),bZ (by
    have X:∃bt ty cs,Blk w7 t ty cs/\3<cs.size/\bt=0:=by
     obtain⟨bt,N,P,O,B⟩:=u.o.cells;exact⟨0,_,_,(B.keep (((L.o.trans k5.o).trans M.o).nil.trans k7.o) a3.o),by simp,rfl⟩
    obtain⟨_,ty,cs,X,bh,_⟩:=X;rw[(X.set_ 3 _).cell 3];simp[bh]),by omega⟩
   clear q1 q2 q3 o7 k7 b0;go_wp2_with fail;go_end0;exact ap.o
  have ar:¬(b1=false/\b2=false/\(0:Int)<(m:Int)):=fun h=>a0 ⟨h.1,h.2.1,by omega⟩;clear a0 h hA y;cases b1 with
  | true=>
   go_wp2_with fail;go_end0;exact d.o
  | false=>
   cases b2 with
   | true=>
    go_wp2_with fail;go_end0;exact d.o
   | false=>
    have bk:¬(0:Int)<(m:Int):=fun h=>ar ⟨rfl,rfl,h⟩;clear ar;go_wp2_with fail;go_end0;exact d.o
end Go.Proofs.YtmlmfpikncogpaaGreat
